/- min, max; the worker's Const, Up, Down. -/
import Derived.Test.YtkfkoobdmnndcaaGreatMill
namespace Go.Proofs.YtkfkoobdmnndcaaGreat
open Go.RowKit Go.Deep
set_option linter.unusedVariables false
def minI (a b : Int) : Int := min a b
def maxI (a b : Int) : Int := max a b
set_option maxRecDepth 100000 in
set_option maxHeartbeats 1000000 in
theorem do_min (a b : Int) (w : World) (ha : In32 a) (hb : In32 b) : Calls Tryz.prog 146 #[.int .i64 16, .int .i32 a, .int .i32 b] w fun e w' => e = .returned (.tuple #[.int .i32 (minI a b), .bool true]) ∧ Chg w w' [] := by
  have HC := hide (Chg.refl w [])
  go_enter Tryz.func146, Tryz.ntmps146
  go_wp2
  go_ret2
  exact ⟨rfl, HC.out⟩
set_option maxRecDepth 100000 in
set_option maxHeartbeats 1000000 in
theorem do_max (a b : Int) (w : World) (ha : In32 a) (hb : In32 b) : Calls Tryz.prog 146 #[.int .i64 17, .int .i32 a, .int .i32 b] w fun e w' => e = .returned (.tuple #[.int .i32 (maxI a b), .bool true]) ∧ Chg w w' [] := by
  have HC := hide (Chg.refl w [])
  go_enter Tryz.func146, Tryz.ntmps146
  go_wp2
  go_ret2
  exact ⟨rfl, HC.out⟩
set_option maxRecDepth 100000 in
set_option maxHeartbeats 1000000 in
theorem work_min (p : Addr) (a b : Int) (w : World) (ha : In32 a) (hb : In32 b) :
    Calls Tryz.prog 108 #[wk p, .int .i32 a, .int .i32 b] w fun e w' => e = .returned (.int .i32 (minI a b)) ∧ Chg w w' [] := by
  unfold wk
  have hn := nil_do p
  have hm := meth_do p
  go_enter Tryz.func108, Tryz.ntmps108
  go_wp2_with fail
  refine (plain_do 16 _ _ a b _ (do_min a b _ ha hb)).mono ?_
  rintro e w1 ⟨rfl, hc⟩
  have HC := hide (((Chg.refl w []).alloc _).trans hc (by simp))
  clear hc
  go_wp2
  go_ret
  exact ⟨rfl, HC.out⟩
set_option maxRecDepth 100000 in
set_option maxHeartbeats 1000000 in
theorem work_max (p : Addr) (a b : Int) (w : World) (ha : In32 a) (hb : In32 b) :
    Calls Tryz.prog 106 #[wk p, .int .i32 a, .int .i32 b] w fun e w' => e = .returned (.int .i32 (maxI a b)) ∧ Chg w w' [] := by
  unfold wk
  have hn := nil_do p
  have hm := meth_do p
  go_enter Tryz.func106, Tryz.ntmps106
  go_wp2_with fail
  refine (plain_do 17 _ _ a b _ (do_max a b _ ha hb)).mono ?_
  rintro e w1 ⟨rfl, hc⟩
  have HC := hide (((Chg.refl w []).alloc _).trans hc (by simp))
  clear hc
  go_wp2
  go_ret
  exact ⟨rfl, HC.out⟩
theorem nil_const (p : Addr) (w : World) : (nilAhead 234 59 (.pointer (some p)) "Const").run Tryz.prog w = .ok (some false) w := by kernel_rfl
theorem meth_const (p : Addr) (w : World) : (method 234 59 (.pointer (some p)) "Const").run Tryz.prog w = .ok (139, .pointer (some p)) w := by kernel_rfl
theorem plain_const (p : Addr) (n : Int) (w : World) : Calls Tryz.prog 139 #[.pointer (some p), .int .i32 n] w fun e w' => e = .returned (.int .i32 n) ∧ w = w' := by
  go_enter Tryz.func139, Tryz.ntmps139
  go_wp2
  go_ret
  exact ⟨rfl, rfl⟩
theorem keepU {w0 w1 w2 : World} {q : Addr} {v : Value} (hc : Chg w1 w2 []) (h : Chg w0 w1 [] ∧ w1.cell? q = some v) : Chg w0 w2 [] ∧ w2.cell? q = some v := ⟨h.1.trans hc (by simp), hc.cell h.2 (by simp)⟩
set_option maxRecDepth 100000 in
set_option maxHeartbeats 1000000 in
theorem work_up (p : Addr) (a n : Int) (w : World) (ha : In32 a) (hn : In32 n) :
    Calls Tryz.prog 63 #[wk p, .int .i32 a, .int .i32 n] w fun e w' => e = .returned (.int .i32 (shlI a n)) ∧ Chg w w' [] := by
  have g0 := (Blk.new w 40 [.iface 59 (.pointer (some p))]).cell' (i := 0) rfl
  have HC := hide ((Chg.refl w []).alloc (.cells #[.iface 59 (.pointer (some p))] 40))
  have kS : Hid (∀ W : World, Calls Tryz.prog 102 #[.agg #[.iface 59 (.pointer (some p))], .int .i32 a, .int .i32 n] W fun e w' => e = .returned (.int .i32 (shlI a n)) ∧ Chg W w' []) := hide (fun W => work_shl p a n W ha hn)
  unfold wk
  have h1 := nil_const p
  have h2 := meth_const p
  go_enter Tryz.func63, Tryz.ntmps63
  go_wp2_with fail
  generalize (w.alloc (.cells #[.iface 59 (.pointer (some p))] 40)) = w6 at *
  go_region_held3 (fun w' => Chg w6 w' [] ∧ w'.cell? ⟨w.heap.size, 0, none⟩ = some (.iface 59 (.pointer (some p))))
    (first | exact ⟨(Chg.refl w6 []).drew, g0⟩ | exact keepU hcX (by assumption))
    (first | (go_at_call 139; refine (plain_const _ _ _).mono ?_; rintro e w7 ⟨rfl, rfl⟩) | (go_at_call 102; refine (kS.out _).mono ?_; rintro e w7 ⟨rfl, hcX⟩))
  have hlast := ‹Chg w6 _ [] ∧ _›
  go_wp2
  go_ret
  exact ⟨rfl, HC.out.trans hlast.1 (by simp)⟩
set_option maxRecDepth 100000 in
set_option maxHeartbeats 1000000 in
theorem work_down (p : Addr) (a n : Int) (w : World) (ha : In32 a) (hn : In32 n) :
    Calls Tryz.prog 85 #[wk p, .int .i32 a, .int .i32 n] w fun e w' => e = .returned (.int .i32 (sarI a n)) ∧ Chg w w' [] := by
  have g0 := (Blk.new w 40 [.iface 59 (.pointer (some p))]).cell' (i := 0) rfl
  have HC := hide ((Chg.refl w []).alloc (.cells #[.iface 59 (.pointer (some p))] 40))
  have kS : Hid (∀ W : World, Calls Tryz.prog 113 #[.agg #[.iface 59 (.pointer (some p))], .int .i32 a, .int .i32 n] W fun e w' => e = .returned (.int .i32 (sarI a n)) ∧ Chg W w' []) := hide (fun W => work_sar p a n W ha hn)
  unfold wk
  have h1 := nil_const p
  have h2 := meth_const p
  go_enter Tryz.func85, Tryz.ntmps85
  go_wp2_with fail
  generalize (w.alloc (.cells #[.iface 59 (.pointer (some p))] 40)) = w6 at *
  go_region_held3 (fun w' => Chg w6 w' [] ∧ w'.cell? ⟨w.heap.size, 0, none⟩ = some (.iface 59 (.pointer (some p))))
    (first | exact ⟨(Chg.refl w6 []).drew, g0⟩ | exact keepU hcX (by assumption))
    (first | (go_at_call 139; refine (plain_const _ _ _).mono ?_; rintro e w7 ⟨rfl, rfl⟩) | (go_at_call 113; refine (kS.out _).mono ?_; rintro e w7 ⟨rfl, hcX⟩))
  have hlast := ‹Chg w6 _ [] ∧ _›
  go_wp2
  go_ret
  exact ⟨rfl, HC.out.trans hlast.1 (by simp)⟩

end Go.Proofs.YtkfkoobdmnndcaaGreat
