/- Texts of this claim, side by side: KdoQuat, KquatW. -/
import Derived.Test.YtakkofepcbkbkaaGreatDoorKQ16
import Derived.Test.YtakkofepcbkbkaaGreatDoorKimgQuat
import Derived.Test.YtakkofepcbkbkaaGreatDoorKrunQuat
import Derived.Test.YtakkofepcbkbkaaGreatDoorKQ8
/- kquat.Do; awake. -/
namespace Go.Proofs.YtakkofepcbkbkaaGreatDoor
open Go Go.RowKit Go.Deep Go.Maps Go.Proofs.YtakkofepcbkbkaaGreatDoor.Ab Go.Proofs.YtakkofepcbkbkaaGreatDoor.Xi
set_option linter.unusedVariables false
attribute [local go_sem] Oper.semAt_some
theorem row_open2 {w : World} {base e n : Nat} {v : Value} {xs : List Value} (h : w.ownsRow base e 1 v n xs) (hp : 0 < n) : ∃ g cap, v = .slice (some ⟨g, 0, none⟩) n cap ∧ base ≤ g ∧ g < w.heap.size ∧ n ≤ cap ∧ cap ≤ maxLen ∧ ∀ i u, xs[i]? = some u → w.cell? ⟨g, i, none⟩ = some u := by
 rcases h.2 with ⟨rfl, h0⟩ | ⟨g, cap, cur, rfl, h1, h2, h3, h4, _⟩
 · omega
 · refine ⟨g, cap, rfl, h1, lt_of_heap h2, h3, h4, fun i u hu => ?_⟩
   have := h.cells (g := g) rfl i u hu
   rwa [add_plain, Nat.zero_add] at this
theorem exT_eq (vs : Array Value) (k : Nat) : exT (.tuple vs) k = vs.getD k undef := rfl
theorem results_cct {fn : Func} {c d u : Tmp} {T T' : TypeId} (h : fn.results = #[.cell c T, .cell d T', .tmp u]) (tmps : Array Value) (P : Program) (w : World) {A B : Addr} {v v' : Value} (ha : tmps.getD c undef = .pointer (some A)) (hl : (loadVar T A).run P w = .ok v w) (hb : tmps.getD d undef = .pointer (some B)) (hl' : (loadVar T' B).run P w = .ok v' w) :
 (results fn tmps).run P w = .ok (.tuple #[v, v', tmps.getD u undef]) w := by
 have e : results fn tmps = (do let vs ← fn.results.mapM (Xi.resF tmps); pure (if h : vs.size = 1 then vs[0] else .tuple vs)) := rfl
 rw [e, h, Array.mapM_eq_mapM_toList]
 simp [Xi.resF, ha, hb, asAddr, hl, hl']
set_option maxRecDepth 100000 in
theorem encQuat : ((wordsOf codeQuat 241).map decN).map encI = (wordsOf codeQuat 241).map fun n : Nat => (n : Int) := by kernel_rfl
set_option maxRecDepth 100000 in
theorem chkQuat : ((wordsOf codeQuat 241).map decN).all (fun i => decide (chkI i = 0)) = true := by kernel_rfl
set_option maxRecDepth 100000 in
theorem lenQuat : marksQuat.length = 346 := by kernel_rfl
set_option maxRecDepth 100000 in
theorem dlenQuat : dataQuat.length = 75 := by kernel_rfl
set_option maxRecDepth 100000 in
theorem pokQuat (p0 p1 p2 p3 q0 q1 q2 q3 : Wd) : (memOf [p0, p1, p2, p3, q0, q1, q2, q3] memQuat 75).map (·.v) = pokesL [0, 1, 2, 3, 4, 5, 6, 7] [p0.v, p1.v, p2.v, p3.v, q0.v, q1.v, q2.v, q3.v] dataQuat := by kernel_rfl
theorem wayQuat (p0 p1 p2 p3 q0 q1 q2 q3 : Wd) : Way (wordsOf codeQuat 241) dataQuat [0, 1, 2, 3, 4, 5, 6, 7] outsQuat [p0.v, p1.v, p2.v, p3.v, q0.v, q1.v, q2.v, q3.v] [(timesW p0 p1 p2 p3 q0 q1 q2 q3).a.v, (timesW p0 p1 p2 p3 q0 q1 q2 q3).b.v, (timesW p0 p1 p2 p3 q0 q1 q2 q3).c.v, (timesW p0 p1 p2 p3 q0 q1 q2 q3).d.v, (unitW p0 p1 p2 p3).a.v, (unitW p0 p1 p2 p3).b.v, (unitW p0 p1 p2 p3).c.v, (unitW p0 p1 p2 p3).d.v] marksQuat where
 enc := encQuat
 chk := fun i hi => of_decide_eq_true (List.all_eq_true.1 chkQuat i hi)
 wl := by rw [wordsQuat]; decide
 dl := by rw [dlenQuat]; decide
 il := by decide
 ol := by decide
 xl := rfl
 insd := by rw [dlenQuat]; decide
 vl := rfl
 k0 := by rw [lenQuat]; decide
 kl := by rw [lenQuat]; decide
 run := by
  obtain ⟨N, m', hN, hr, hst, hks, hl, h0, h1, h2, h3, h4, h5, h6, h7⟩ := waysQuat p0 p1 p2 p3 q0 q1 q2 q3
  refine ⟨_, N, m', pokQuat p0 p1 p2 p3 q0 q1 q2 q3, hr, hst, by omega, hks, fun j a v hj hv => ?_⟩
  unfold wsM
  rw [List.getElem?_map]
  revert hj hv
  match j with
  | 0 =>
   intro hj hv
   have hv : some ((timesW p0 p1 p2 p3 q0 q1 q2 q3).a.v) = some v := hv
   have hj : some 14 = some a := hj
   injection hj with hj; injection hv with hv
   subst hj hv
   rw [h0]
   rfl
  | 1 =>
   intro hj hv
   have hv : some ((timesW p0 p1 p2 p3 q0 q1 q2 q3).b.v) = some v := hv
   have hj : some 21 = some a := hj
   injection hj with hj; injection hv with hv
   subst hj hv
   rw [h1]
   rfl
  | 2 =>
   intro hj hv
   have hv : some ((timesW p0 p1 p2 p3 q0 q1 q2 q3).c.v) = some v := hv
   have hj : some 28 = some a := hj
   injection hj with hj; injection hv with hv
   subst hj hv
   rw [h2]
   rfl
  | 3 =>
   intro hj hv
   have hv : some ((timesW p0 p1 p2 p3 q0 q1 q2 q3).d.v) = some v := hv
   have hj : some 35 = some a := hj
   injection hj with hj; injection hv with hv
   subst hj hv
   rw [h3]
   rfl
  | 4 =>
   intro hj hv
   have hv : some ((unitW p0 p1 p2 p3).a.v) = some v := hv
   have hj : some 68 = some a := hj
   injection hj with hj; injection hv with hv
   subst hj hv
   rw [h4]
   rfl
  | 5 =>
   intro hj hv
   have hv : some ((unitW p0 p1 p2 p3).b.v) = some v := hv
   have hj : some 70 = some a := hj
   injection hj with hj; injection hv with hv
   subst hj hv
   rw [h5]
   rfl
  | 6 =>
   intro hj hv
   have hv : some ((unitW p0 p1 p2 p3).c.v) = some v := hv
   have hj : some 72 = some a := hj
   injection hj with hj; injection hv with hv
   subst hj hv
   rw [h6]
   rfl
  | 7 =>
   intro hj hv
   have hv : some ((unitW p0 p1 p2 p3).d.v) = some v := hv
   have hj : some 74 = some a := hj
   injection hj with hj; injection hv with hv
   subst hj hv
   rw [h7]
   rfl
  | j + 8 => intro hj hv; simp [outsQuat] at hj
def vKd1 (p0 p1 p2 p3 q0 q1 q2 q3 : Wd) (P Q N : Nat) (γ : Gh) : Nat → Value
 | 0 => γ 0
 | 1 => .slice (some ⟨P, 0, none⟩) 4 4
 | 2 => .slice (some ⟨Q, 0, none⟩) 4 4
 | 3 => γ 3
 | 4 => γ 4
 | 5 => γ 4
 | 6 => exT (γ 4) 0
 | 7 => exT (γ 4) 1
 | 8 => exT (γ 4) 0
 | 9 => exT (γ 4) 1
 | _ => undef
def chKd1 : Nat → List Nat
 | 0 => [0]
 | 1 => [3]
 | 2 => [4]
 | _ => []
def obKd1 (p0 p1 p2 p3 q0 q1 q2 q3 : Wd) (P Q N : Nat) : Nat → ObjD
 | 0 => FactO 0 (fun v w => ImgAt w v ((wordsOf codeQuat 241).map fun w : Nat => (w : Int)) dataQuat secQuat [0, 1, 2, 3, 4, 5, 6, 7] outsQuat)
 | 1 => FactO 3 (fun v w => Sl w v (i32s [p0.v, p1.v, p2.v, p3.v, q0.v, q1.v, q2.v, q3.v]))
 | 2 => FactO 4 (fun v w => ∃ u, v = .tuple #[u, .int .i64 (sumC marksQuat)] ∧ w.ownsRow N 21 1 u 8 (i32s [(timesW p0 p1 p2 p3 q0 q1 q2 q3).a.v, (timesW p0 p1 p2 p3 q0 q1 q2 q3).b.v, (timesW p0 p1 p2 p3 q0 q1 q2 q3).c.v, (timesW p0 p1 p2 p3 q0 q1 q2 q3).d.v, (unitW p0 p1 p2 p3).a.v, (unitW p0 p1 p2 p3).b.v, (unitW p0 p1 p2 p3).c.v, (unitW p0 p1 p2 p3).d.v]))
 | _ => fun _ _ _ _ => False
theorem stKd1 (p0 p1 p2 p3 q0 q1 q2 q3 : Wd) (P Q N : Nat) : ∀ j, j < 3 → Stab0 (obKd1 p0 p1 p2 p3 q0 q1 q2 q3 P Q N j) := fun j hj => by
 match j, hj with
 | 0, _ => exact (show Stab0 (FactO 0 (fun v w => ImgAt w v ((wordsOf codeQuat 241).map fun w : Nat => (w : Int)) dataQuat secQuat [0, 1, 2, 3, 4, 5, 6, 7] outsQuat)) from FactO.stab0 fun v w w' h hc => h.keep hc)
 | 1, _ => exact (show Stab0 (FactO 3 (fun v w => Sl w v (i32s [p0.v, p1.v, p2.v, p3.v, q0.v, q1.v, q2.v, q3.v]))) from FactO.stab0 fun v w w' h hc => h.keep hc)
 | 2, _ => exact (show Stab0 (FactO 4 (fun v w => ∃ u, v = .tuple #[u, .int .i64 (sumC marksQuat)] ∧ w.ownsRow N 21 1 u 8 (i32s [(timesW p0 p1 p2 p3 q0 q1 q2 q3).a.v, (timesW p0 p1 p2 p3 q0 q1 q2 q3).b.v, (timesW p0 p1 p2 p3 q0 q1 q2 q3).c.v, (timesW p0 p1 p2 p3 q0 q1 q2 q3).d.v, (unitW p0 p1 p2 p3).a.v, (unitW p0 p1 p2 p3).b.v, (unitW p0 p1 p2 p3).c.v, (unitW p0 p1 p2 p3).d.v]))) from FactO.stab0 fun v w w' h hc => by obtain ⟨u, h1, h2⟩ := h; exact ⟨u, h1, own_chgD h2 hc (by simp)⟩)
theorem agKd1_0 (p0 p1 p2 p3 q0 q1 q2 q3 : Wd) (P Q N : Nat) (γ : Gh) (v : Value) : ∀ j, j ∉ ([0] : List Nat) → vKd1 p0 p1 p2 p3 q0 q1 q2 q3 P Q N (upd γ 0 v) j = vKd1 p0 p1 p2 p3 q0 q1 q2 q3 P Q N γ j := fun j hj => by
 match j, hj with
 | 0, hj => exact absurd (by decide) hj
 | 1, _ => rfl
 | 2, _ => rfl
 | 3, _ => rfl
 | 4, _ => rfl
 | 5, _ => rfl
 | 6, _ => rfl
 | 7, _ => rfl
 | 8, _ => rfl
 | 9, _ => rfl
 | _ + 10, _ => rfl
theorem agKd1_3 (p0 p1 p2 p3 q0 q1 q2 q3 : Wd) (P Q N : Nat) (γ : Gh) (v : Value) : ∀ j, j ∉ ([3] : List Nat) → vKd1 p0 p1 p2 p3 q0 q1 q2 q3 P Q N (upd γ 3 v) j = vKd1 p0 p1 p2 p3 q0 q1 q2 q3 P Q N γ j := fun j hj => by
 match j, hj with
 | 0, _ => rfl
 | 1, _ => rfl
 | 2, _ => rfl
 | 3, hj => exact absurd (by decide) hj
 | 4, _ => rfl
 | 5, _ => rfl
 | 6, _ => rfl
 | 7, _ => rfl
 | 8, _ => rfl
 | 9, _ => rfl
 | _ + 10, _ => rfl
theorem agKd1_4 (p0 p1 p2 p3 q0 q1 q2 q3 : Wd) (P Q N : Nat) (γ : Gh) (v : Value) : ∀ j, j ∉ ([4, 5, 6, 7, 8, 9] : List Nat) → vKd1 p0 p1 p2 p3 q0 q1 q2 q3 P Q N (upd γ 4 v) j = vKd1 p0 p1 p2 p3 q0 q1 q2 q3 P Q N γ j := fun j hj => by
 match j, hj with
 | 0, _ => rfl
 | 1, _ => rfl
 | 2, _ => rfl
 | 3, _ => rfl
 | 4, hj => exact absurd (by decide) hj
 | 5, hj => exact absurd (by decide) hj
 | 6, hj => exact absurd (by decide) hj
 | 7, hj => exact absurd (by decide) hj
 | 8, hj => exact absurd (by decide) hj
 | 9, hj => exact absurd (by decide) hj
 | _ + 10, _ => rfl
theorem putsKd1 (v : Nat → Value) (t0 t1 t2 t3 t4 t5 t6 t7 t8 t9 t10 t11 t12 t13 t14 t15 t16 t17 t18 t19 t20 t21 t22 t23 t24 t25 : Value) : putsD v (some 10 :: some 11 :: some 12 :: some 13 :: some 14 :: some 9 :: some 15 :: some 16 :: some 7 :: some 8 :: []) 0 (t0 :: t1 :: t2 :: t3 :: t4 :: t5 :: t6 :: t7 :: t8 :: t9 :: t10 :: t11 :: t12 :: t13 :: t14 :: t15 :: t16 :: t17 :: t18 :: t19 :: t20 :: t21 :: t22 :: t23 :: t24 :: t25 :: []) = (t0 :: t1 :: t2 :: t3 :: t4 :: t5 :: t6 :: v 8 :: v 9 :: v 5 :: v 0 :: v 1 :: v 2 :: v 3 :: v 4 :: v 6 :: v 7 :: t17 :: t18 :: t19 :: t20 :: t21 :: t22 :: t23 :: t24 :: t25 :: []) := by kernel_rfl
def vKd2 (p0 p1 p2 p3 q0 q1 q2 q3 : Wd) (g c Y Z : Nat) (γ : Gh) : Nat → Value
 | 0 => .slice (some ⟨g, 0, none⟩) 8 c
 | 1 => .slice (some ⟨g, 0, none⟩) 4 c
 | 2 => .pointer (some ⟨g, 0, none⟩)
 | 3 => .agg #[.int .i32 ((timesW p0 p1 p2 p3 q0 q1 q2 q3).a.v), .int .i32 ((timesW p0 p1 p2 p3 q0 q1 q2 q3).b.v), .int .i32 ((timesW p0 p1 p2 p3 q0 q1 q2 q3).c.v), .int .i32 ((timesW p0 p1 p2 p3 q0 q1 q2 q3).d.v)]
 | 4 => .slice (some ⟨g, 0, none⟩) 8 c
 | 5 => .slice (some ⟨g, 4, none⟩) 4 (c - 4)
 | 6 => .pointer (some ⟨g, 4, none⟩)
 | 7 => .agg #[.int .i32 ((unitW p0 p1 p2 p3).a.v), .int .i32 ((unitW p0 p1 p2 p3).b.v), .int .i32 ((unitW p0 p1 p2 p3).c.v), .int .i32 ((unitW p0 p1 p2 p3).d.v)]
 | 8 => .int .i64 (sumC marksQuat)
 | 9 => undef
 | 10 => undef
 | 11 => .int .i64 (sumC marksQuat)
 | _ => undef
def chKd2 : Nat → List Nat
 | 0 => [9]
 | 1 => [10]
 | _ => []
def obKd2 (p0 p1 p2 p3 q0 q1 q2 q3 : Wd) (g c Y Z : Nat) : Nat → ObjD
 | 0 => BlkP Y 44 [.int .i32 0, .int .i32 0, .int .i32 0, .int .i32 0] (fun _ => [.int .i32 ((timesW p0 p1 p2 p3 q0 q1 q2 q3).a.v), .int .i32 ((timesW p0 p1 p2 p3 q0 q1 q2 q3).b.v), .int .i32 ((timesW p0 p1 p2 p3 q0 q1 q2 q3).c.v), .int .i32 ((timesW p0 p1 p2 p3 q0 q1 q2 q3).d.v)])
 | 1 => BlkP Z 44 [.int .i32 0, .int .i32 0, .int .i32 0, .int .i32 0] (fun _ => [.int .i32 ((unitW p0 p1 p2 p3).a.v), .int .i32 ((unitW p0 p1 p2 p3).b.v), .int .i32 ((unitW p0 p1 p2 p3).c.v), .int .i32 ((unitW p0 p1 p2 p3).d.v)])
 | _ => fun _ _ _ _ => False
theorem stKd2 (p0 p1 p2 p3 q0 q1 q2 q3 : Wd) (g c Y Z : Nat) : ∀ j, j < 2 → Stab (obKd2 p0 p1 p2 p3 q0 q1 q2 q3 g c Y Z j) := fun j hj => by
 match j, hj with
 | 0, _ => exact (show Stab (BlkP Y 44 [.int .i32 0, .int .i32 0, .int .i32 0, .int .i32 0] (fun _ => [.int .i32 ((timesW p0 p1 p2 p3 q0 q1 q2 q3).a.v), .int .i32 ((timesW p0 p1 p2 p3 q0 q1 q2 q3).b.v), .int .i32 ((timesW p0 p1 p2 p3 q0 q1 q2 q3).c.v), .int .i32 ((timesW p0 p1 p2 p3 q0 q1 q2 q3).d.v)])) from BlkP.stab _ _ _ _)
 | 1, _ => exact (show Stab (BlkP Z 44 [.int .i32 0, .int .i32 0, .int .i32 0, .int .i32 0] (fun _ => [.int .i32 ((unitW p0 p1 p2 p3).a.v), .int .i32 ((unitW p0 p1 p2 p3).b.v), .int .i32 ((unitW p0 p1 p2 p3).c.v), .int .i32 ((unitW p0 p1 p2 p3).d.v)])) from BlkP.stab _ _ _ _)
theorem putsKd2 (v : Nat → Value) (t0 t1 t2 t3 t4 t5 t6 t7 t8 t9 t10 t11 t12 t13 t14 t15 t16 t17 t18 t19 t20 t21 t22 t23 t24 t25 : Value) : putsD v (some 17 :: some 18 :: some 19 :: some 20 :: some 21 :: some 22 :: some 23 :: some 24 :: some 25 :: none :: none :: some 6 :: []) 0 (t0 :: t1 :: t2 :: t3 :: t4 :: t5 :: t6 :: t7 :: t8 :: t9 :: t10 :: t11 :: t12 :: t13 :: t14 :: t15 :: t16 :: t17 :: t18 :: t19 :: t20 :: t21 :: t22 :: t23 :: t24 :: t25 :: []) = (t0 :: t1 :: t2 :: t3 :: t4 :: t5 :: v 11 :: t7 :: t8 :: t9 :: t10 :: t11 :: t12 :: t13 :: t14 :: t15 :: t16 :: v 0 :: v 1 :: v 2 :: v 3 :: v 4 :: v 5 :: v 6 :: v 7 :: v 8 :: []) := by kernel_rfl
set_option maxRecDepth 100000 in
set_option maxHeartbeats 2000000 in
theorem kquat_do {w : World} (hg : Glo w) (p0 p1 p2 p3 q0 q1 q2 q3 : Wd) :
 Calls Tryz.prog 22 #[.agg #[.int .i32 p0.v, .int .i32 p1.v, .int .i32 p2.v, .int .i32 p3.v], .agg #[.int .i32 q0.v, .int .i32 q1.v, .int .i32 q2.v, .int .i32 q3.v]] w fun e w' => e = .returned (.tuple #[.agg #[.int .i32 ((timesW p0 p1 p2 p3 q0 q1 q2 q3).a.v), .int .i32 ((timesW p0 p1 p2 p3 q0 q1 q2 q3).b.v), .int .i32 ((timesW p0 p1 p2 p3 q0 q1 q2 q3).c.v), .int .i32 ((timesW p0 p1 p2 p3 q0 q1 q2 q3).d.v)], .agg #[.int .i32 ((unitW p0 p1 p2 p3).a.v), .int .i32 ((unitW p0 p1 p2 p3).b.v), .int .i32 ((unitW p0 p1 p2 p3).c.v), .int .i32 ((unitW p0 p1 p2 p3).d.v)], .int .i64 (sumC marksQuat)]) ∧ Chg w w' [] := by
 have hmix := hide (show Tryz.prog.follows .mixedOrders = true by kernel_rfl)
 have b0 := Blk.new w 44 [.int .i32 p0.v, .int .i32 p1.v, .int .i32 p2.v, .int .i32 p3.v]
 have b1 := Blk.new (w.alloc (.cells #[.int .i32 p0.v, .int .i32 p1.v, .int .i32 p2.v, .int .i32 p3.v] 44)) 44 [.int .i32 q0.v, .int .i32 q1.v, .int .i32 q2.v, .int .i32 q3.v]
 have b2 := Blk.new ((w.alloc (.cells #[.int .i32 p0.v, .int .i32 p1.v, .int .i32 p2.v, .int .i32 p3.v] 44)).alloc (.cells #[.int .i32 q0.v, .int .i32 q1.v, .int .i32 q2.v, .int .i32 q3.v] 44)) 44 [.int .i32 0, .int .i32 0, .int .i32 0, .int .i32 0]
 have b3 := Blk.new (((w.alloc (.cells #[.int .i32 p0.v, .int .i32 p1.v, .int .i32 p2.v, .int .i32 p3.v] 44)).alloc (.cells #[.int .i32 q0.v, .int .i32 q1.v, .int .i32 q2.v, .int .i32 q3.v] 44)).alloc (.cells #[.int .i32 0, .int .i32 0, .int .i32 0, .int .i32 0] 44)) 44 [.int .i32 0, .int .i32 0, .int .i32 0, .int .i32 0]
 have hz1 : (w.alloc (.cells #[.int .i32 p0.v, .int .i32 p1.v, .int .i32 p2.v, .int .i32 p3.v] 44)).heap.size = w.heap.size + 1 := size_alloc _ _
 have hz2 : ((w.alloc (.cells #[.int .i32 p0.v, .int .i32 p1.v, .int .i32 p2.v, .int .i32 p3.v] 44)).alloc (.cells #[.int .i32 q0.v, .int .i32 q1.v, .int .i32 q2.v, .int .i32 q3.v] 44)).heap.size = w.heap.size + 1 + 1 := by rw [size_alloc, hz1]
 have hz3 : (((w.alloc (.cells #[.int .i32 p0.v, .int .i32 p1.v, .int .i32 p2.v, .int .i32 p3.v] 44)).alloc (.cells #[.int .i32 q0.v, .int .i32 q1.v, .int .i32 q2.v, .int .i32 q3.v] 44)).alloc (.cells #[.int .i32 0, .int .i32 0, .int .i32 0, .int .i32 0] 44)).heap.size = w.heap.size + 1 + 1 + 1 := by rw [size_alloc, hz2]
 rw [hz1] at b1
 rw [hz2] at b2
 rw [hz3] at b3
 have hc0 : Chg w ((((w.alloc (.cells #[.int .i32 p0.v, .int .i32 p1.v, .int .i32 p2.v, .int .i32 p3.v] 44)).alloc (.cells #[.int .i32 q0.v, .int .i32 q1.v, .int .i32 q2.v, .int .i32 q3.v] 44)).alloc (.cells #[.int .i32 0, .int .i32 0, .int .i32 0, .int .i32 0] 44)).alloc (.cells #[.int .i32 0, .int .i32 0, .int .i32 0, .int .i32 0] 44)) [] := ((((Chg.refl w []).alloc _).alloc _).alloc _).alloc _
 have B0 := hide (((b0.alloc (.cells #[.int .i32 q0.v, .int .i32 q1.v, .int .i32 q2.v, .int .i32 q3.v] 44)).alloc (.cells #[.int .i32 0, .int .i32 0, .int .i32 0, .int .i32 0] 44)).alloc (.cells #[.int .i32 0, .int .i32 0, .int .i32 0, .int .i32 0] 44))
 have B1 := hide ((b1.alloc (.cells #[.int .i32 0, .int .i32 0, .int .i32 0, .int .i32 0] 44)).alloc (.cells #[.int .i32 0, .int .i32 0, .int .i32 0, .int .i32 0] 44))
 have B2 := hide (b2.alloc (.cells #[.int .i32 0, .int .i32 0, .int .i32 0, .int .i32 0] 44))
 have B3 := hide b3
 have HCW := hide hc0
 have HG := hide hg
 clear hg b0 b1 b2 b3 hz1 hz2 hz3 hc0
 go_enter Tryz.func22, Tryz.ntmps22
 go_wp2_with fail
 generalize ((((w.alloc (.cells #[.int .i32 p0.v, .int .i32 p1.v, .int .i32 p2.v, .int .i32 p3.v] 44)).alloc (.cells #[.int .i32 q0.v, .int .i32 q1.v, .int .i32 q2.v, .int .i32 q3.v] 44)).alloc (.cells #[.int .i32 0, .int .i32 0, .int .i32 0, .int .i32 0] 44)).alloc (.cells #[.int .i32 0, .int .i32 0, .int .i32 0, .int .i32 0] 44)) = W0 at *
 generalize hP : w.heap.size = P at *
 generalize hQ : P + 1 = Q at *
 generalize hY : Q + 1 = Y at *
 generalize hZ : Y + 1 = Z at *
 have HG0 := hide (HG.out.chg HCW.out (by simp))
 have HZ0 := hide HG0.out.size
 obtain ⟨N, HN, HYN⟩ : ∃ N, Hid (N ≤ W0.heap.size) ∧ Hid (Y < N ∧ Z < N) := ⟨W0.heap.size, hide (Nat.le_refl _), hide ⟨B2.out.lt, B3.out.lt⟩⟩
 have HNW := HN
 have HPb := B0
 have HQb := B1
 have HPQ : Hid (P + 1 = Q ∧ Q + 1 = Y ∧ Y + 1 = Z ∧ w.heap.size = P) := hide ⟨hQ, hY, hZ, hP⟩
 have HYQ : Hid (8 ≤ Y) := hide (by have := HG.out.size; omega)
 clear hP hQ hY hZ B0 B1 HN
 go_upto_region 1 with (fail)
 refine wp_regionJ hmix.out _ _ (fun γ => vKd1 p0 p1 p2 p3 q0 q1 q2 q3 P Q N γ) (fun (γ : Gh) L w' => RSW 3 (obKd1 p0 p1 p2 p3 q0 q1 q2 q3 P Q N) chKd1 W0 [] γ L w') (fun _ => undef) (by kernel_rfl) [] (by kernel_rfl) (fun p hp γ => by simp at hp) (by kernel_rfl) ?step ?start ?fin ?ext
 case ext =>
  intro γ L L' w' h hw
  exact RSW.ext (fun j hj e he => h e (by
   match j, hj with
   | 0, _ => simp [chKd1] at he; rcases he with rfl <;> decide
   | 1, _ => simp [chKd1] at he; rcases he with rfl <;> decide
   | 2, _ => simp [chKd1] at he; rcases he with rfl <;> decide
   )) hw
 case step =>
  intro i o ho L av w1 γ hdn htm hW hL hpre K' Q' hK
  match i, ho with
   | 0, ho =>
    injection ho with ho; subst ho
    clear htm
    have hm : cntE L (chKd1 0) = 0 := by simp [chKd1, cntE, hL]
    have hm2 : cntE (fun e => if e = 0 then true else L e) (chKd1 0) = 1 := by simp [chKd1, cntE]
    refine call_now (f := 20) (args := #[]) ?_ (kquat_image w1 (HG0.out.chg (RSW.chg hW) (by simp))) ?_
    · go_simp
    · rintro e w2 ⟨v, rfl, hc, hi⟩
      exact ⟨_, rfl, hK (upd γ 0 (v)) w2 (agree_of hdn [0] (by kernel_rfl) hL (agKd1_0 p0 p1 p2 p3 q0 q1 q2 q3 P Q N γ _)) (RSW.eff0 (stKd1 p0 p1 p2 p3 q0 q1 q2 q3 P Q N) HZ0.out hW 0 0 (by decide) (by decide) hm hm2 hc (FactO.make (i := 0) (p := (fun v w => ImgAt w v ((wordsOf codeQuat 241).map fun w : Nat => (w : Int)) dataQuat secQuat [0, 1, 2, 3, 4, 5, 6, 7] outsQuat)) hi) (fun q hq hn F h => by
      match q, hq, hn with
      | 0, _, hn => exact absurd rfl hn
      | 1, _, hn => exact h
      | 2, _, hn => exact h
    ))⟩
   | 1, ho =>
    injection ho with ho; subst ho
    have b2 : av.tmps.getD 2 undef = .pointer (some ⟨P, 0, none⟩) := slB htm 2 (by kernel_rfl)
    clear htm
    have hbb := HPb.out.chg (RSW.chg hW) (by simp)
    have hll := hbb.lt
    refine val_now ?_ (hK γ w1 (fun _ _ => rfl) (RSW.same hW 1 (by decide))); go_simp; rfl
   | 2, ho =>
    injection ho with ho; subst ho
    have b3 : av.tmps.getD 3 undef = .pointer (some ⟨Q, 0, none⟩) := slB htm 3 (by kernel_rfl)
    clear htm
    have hbb := HQb.out.chg (RSW.chg hW) (by simp)
    have hll := hbb.lt
    refine val_now ?_ (hK γ w1 (fun _ _ => rfl) (RSW.same hW 2 (by decide))); go_simp; rfl
   | 3, ho =>
    injection ho with ho; subst ho
    have s1 := slA htm 11 1 (by kernel_rfl) (hpre ⟨1, .data⟩ (by simp) rfl)
    have s2 := slA htm 12 2 (by kernel_rfl) (hpre ⟨2, .data⟩ (by simp) rfl)
    simp only [vKd1] at s1 s2
    clear htm
    have hm : cntE L (chKd1 1) = 0 := by simp [chKd1, cntE, hL]
    have hm2 : cntE (fun e => if e = 3 then true else L e) (chKd1 1) = 1 := by simp [chKd1, cntE]
    obtain ⟨i0, hi0, hz0, hz1, hz2⟩ := info_parts info_i32
    refine grow_now rfl (.tmp 11) (.tmp 12) 22 rfl 21 i0 (.int .i32 0) 1 4 Tryz.underlying22 hi0 hz0 hz1 hz2 rfl (by decide) (some ⟨P, 0, none⟩) 4 4 [.int .i32 p0.v, .int .i32 p1.v, .int .i32 p2.v, .int .i32 p3.v] (by show av.tmps.getD 11 undef = _; exact s1) (by simp) rfl (fun b hb j u hj => by
     injection hb with hb; subst hb; rw [add_plain, Nat.zero_add]; exact (HPb.out.chg (RSW.chg hW) (by simp)).cell' (i := j) hj) ⟨Q, 0, none⟩ 4 4 [.int .i32 q0.v, .int .i32 q1.v, .int .i32 q2.v, .int .i32 q3.v] (by show av.tmps.getD 12 undef = _; exact s2) rfl (fun j u hj => by rw [add_plain, Nat.zero_add]; exact (HQb.out.chg (RSW.chg hW) (by simp)).cell' (i := j) hj) (by intro u hu; simp at hu; rcases hu with rfl | rfl | rfl | rfl <;> rfl) (by decide) (by decide) (by decide) ?_
    intro v' w2 hown hgr
    have hc : Chg w1 w2 [] := Chg.of_grown hgr (fun k hk => by cases hk)
    exact hK (upd γ 3 v') w2 (agree_of hdn [3] (by kernel_rfl) hL (agKd1_3 p0 p1 p2 p3 q0 q1 q2 q3 P Q N γ _)) (RSW.eff0 (stKd1 p0 p1 p2 p3 q0 q1 q2 q3 P Q N) HZ0.out hW 3 1 (by decide) (by decide) hm hm2 hc (FactO.make (i := 3) (p := (fun v w => Sl w v (i32s [p0.v, p1.v, p2.v, p3.v, q0.v, q1.v, q2.v, q3.v]))) (Sl.own hown)) (fun q hq hn F h => by
     match q, hq, hn with
     | 0, _, hn => exact h
     | 1, _, hn => exact absurd rfl hn
     | 2, _, hn => exact h
    ))
   | 4, ho =>
    injection ho with ho; subst ho
    have s0 := slA htm 10 0 (by kernel_rfl) (hpre ⟨0, .data⟩ (by simp) rfl)
    have s3 := slA htm 13 3 (by kernel_rfl) (hpre ⟨3, .data⟩ (by simp) rfl)
    simp only [vKd1] at s0 s3
    clear htm
    have hm : cntE L (chKd1 2) = 0 := by simp [chKd1, cntE, hL]
    have hm2 : cntE (fun e => if e = 4 then true else L e) (chKd1 2) = 1 := by simp [chKd1, cntE]
    have c0 : L 0 = true := hpre ⟨0, .data⟩ (by simp) rfl
    obtain ⟨F_hi, h_hi, _, _⟩ := RSW.get hW 0 (by decide) (m := 1) (by simp [chKd1, cntE, c0])
    have hi := h_hi.2
    have c3 : L 3 = true := hpre ⟨3, .chain⟩ (by simp) rfl
    obtain ⟨F_hs, h_hs, _, _⟩ := RSW.get hW 1 (by decide) (m := 1) (by simp [chKd1, cntE, c3])
    have hs := h_hs.2
    refine call_now (f := 50) (args := #[γ 0, γ 3]) ?_ (erun_calls (HG0.out.chg (RSW.chg hW) (by simp)) hi hs (wayQuat p0 p1 p2 p3 q0 q1 q2 q3)) ?_
    · go_simp
    · rintro e w2 ⟨u, rfl, hc, ho⟩
      exact ⟨_, rfl, hK (upd γ 4 (.tuple #[u, .int .i64 (sumC marksQuat)])) w2 (agree_of hdn [4, 5, 6, 7, 8, 9] (by kernel_rfl) hL (agKd1_4 p0 p1 p2 p3 q0 q1 q2 q3 P Q N γ _)) (RSW.eff0 (stKd1 p0 p1 p2 p3 q0 q1 q2 q3 P Q N) HZ0.out hW 4 2 (by decide) (by decide) hm hm2 hc (FactO.make (i := 4) (p := (fun v w => ∃ u, v = .tuple #[u, .int .i64 (sumC marksQuat)] ∧ w.ownsRow N 21 1 u 8 (i32s [(timesW p0 p1 p2 p3 q0 q1 q2 q3).a.v, (timesW p0 p1 p2 p3 q0 q1 q2 q3).b.v, (timesW p0 p1 p2 p3 q0 q1 q2 q3).c.v, (timesW p0 p1 p2 p3 q0 q1 q2 q3).d.v, (unitW p0 p1 p2 p3).a.v, (unitW p0 p1 p2 p3).b.v, (unitW p0 p1 p2 p3).c.v, (unitW p0 p1 p2 p3).d.v]))) ⟨u, rfl, own_low ho (Nat.le_trans HNW.out (RSW.chg hW).size)⟩) (fun q hq hn F h => by
      match q, hq, hn with
      | 0, _, hn => exact h
      | 1, _, hn => exact h
      | 2, _, hn => exact absurd rfl hn
    ))⟩
   | 5, ho =>
    injection ho with ho; subst ho
    have s4 := slA htm 14 4 (by kernel_rfl) (hpre ⟨4, .data⟩ (by simp) rfl)
    simp only [vKd1] at s4
    clear htm
    refine val_now ?_ (hK γ w1 (fun _ _ => rfl) (RSW.same hW 5 (by decide))); go_simp; rfl
   | 6, ho =>
    injection ho with ho; subst ho
    have s5 := slA htm 9 5 (by kernel_rfl) (hpre ⟨5, .data⟩ (by simp) rfl)
    simp only [vKd1] at s5
    clear htm
    have c4 : L 4 = true := hdn 5 _ rfl (hpre ⟨5, .data⟩ (by simp) rfl) ⟨4, .data⟩ (by simp) rfl
    obtain ⟨F_hf, h_hf, _, _⟩ := RSW.get hW 2 (by decide) (m := 1) (by simp [chKd1, cntE, c4])
    have hf := h_hf.2
    obtain ⟨_, hf, _⟩ := hf
    rw [hf] at s5
    refine val_now (v := exT (γ 4) 0) ?_ (hK γ w1 (fun _ _ => rfl) (RSW.same hW 6 (by decide))); rw [hf]; go_simp; first | done | rfl
   | 7, ho =>
    injection ho with ho; subst ho
    have s5 := slA htm 9 5 (by kernel_rfl) (hpre ⟨5, .data⟩ (by simp) rfl)
    simp only [vKd1] at s5
    clear htm
    have c4 : L 4 = true := hdn 5 _ rfl (hpre ⟨5, .data⟩ (by simp) rfl) ⟨4, .data⟩ (by simp) rfl
    obtain ⟨F_hf, h_hf, _, _⟩ := RSW.get hW 2 (by decide) (m := 1) (by simp [chKd1, cntE, c4])
    have hf := h_hf.2
    obtain ⟨_, hf, _⟩ := hf
    rw [hf] at s5
    refine val_now (v := exT (γ 4) 1) ?_ (hK γ w1 (fun _ _ => rfl) (RSW.same hW 7 (by decide))); rw [hf]; go_simp; first | done | rfl
   | 8, ho =>
    injection ho with ho; subst ho
    have s6 := slA htm 15 6 (by kernel_rfl) (hpre ⟨6, .data⟩ (by simp) rfl)
    simp only [vKd1] at s6
    clear htm
    refine val_now ?_ (hK γ w1 (fun _ _ => rfl) (RSW.same hW 8 (by decide))); go_simp; rfl
   | 9, ho =>
    injection ho with ho; subst ho
    have s7 := slA htm 16 7 (by kernel_rfl) (hpre ⟨7, .data⟩ (by simp) rfl)
    simp only [vKd1] at s7
    clear htm
    refine val_now ?_ (hK γ w1 (fun _ _ => rfl) (RSW.same hW 9 (by decide))); go_simp; rfl
   | _ + 10, ho => cases ho
 case start =>
  refine RSW.start fun j hj => ?_
  match j, hj with
  | 0, _ => exact ⟨rfl, trivial⟩
  | 1, _ => exact ⟨rfl, trivial⟩
  | 2, _ => exact ⟨rfl, trivial⟩
 case fin =>
 intro γ W2 hW
 obtain ⟨_, ⟨_, u, hf, hu⟩, _⟩ := RSW.get hW 2 (by decide) (m := 1) rfl
 have hc2 := hW.chg
 obtain ⟨g, c, rfl, hNg, hgl, h8c, hcm, hcells⟩ := row_open2 hu (by decide)
 have HC2 := hide (HCW.out.trans hc2 (by simp))
 have HYb2 := hide (B2.out.chg hc2 (by simp))
 have HZb2 := hide (B3.out.chg hc2 (by simp))
 have HZ2 := hide (HG0.out.chg hc2 (by simp)).size
 have HCC := hide (show 8 ≤ c ∧ c ≤ maxLen from ⟨h8c, hcm⟩)
 have HGY : Hid (g ∉ [Y, Z]) := hide (by have := HYN.out; simp; omega)
 have HC0_ := hide (hcells 0 _ rfl)
 have HC1_ := hide (hcells 1 _ rfl)
 have HC2_ := hide (hcells 2 _ rfl)
 have HC3_ := hide (hcells 3 _ rfl)
 have HC4_ := hide (hcells 4 _ rfl)
 have HC5_ := hide (hcells 5 _ rfl)
 have HC6_ := hide (hcells 6 _ rfl)
 have HC7_ := hide (hcells 7 _ rfl)
 rw [finG_puts, putsR_list, putsL_dst]
 simp only [List.map_cons, List.map_nil]
 rw [putsKd1]
 simp only [vKd1]
 rw [hf]
 simp only [exT_eq]
 clear hW hf hu hcells hc2 hNg hgl h8c hcm B2 B3
 go_wp2_with fail
 go_upto_region 2 with (fail)
 refine wp_regionJ hmix.out _ _ (fun γ => vKd2 p0 p1 p2 p3 q0 q1 q2 q3 g c Y Z γ) (fun (γ : Gh) L w' => RSW 2 (obKd2 p0 p1 p2 p3 q0 q1 q2 q3 g c Y Z) chKd2 W2 [Y, Z] γ L w') (fun _ => undef) (by kernel_rfl) [] (by kernel_rfl) (fun p hp γ => by simp at hp) (by kernel_rfl) ?step ?start ?fin ?ext
 case ext =>
  intro γ L L' w' h hw
  exact RSW.ext (fun j hj e he => h e (by
   match j, hj with
   | 0, _ => simp [chKd2] at he; rcases he with rfl <;> decide
   | 1, _ => simp [chKd2] at he; rcases he with rfl <;> decide
   )) hw
 case step =>
  intro i o ho L av w1 γ hdn htm hW hL hpre K' Q' hK
  match i, ho with
   | 0, ho =>
    injection ho with ho; subst ho
    have b7 : av.tmps.getD 7 undef = .slice (some ⟨g, 0, none⟩) 8 c := slB htm 7 (by kernel_rfl)
    clear htm
    refine val_now ?_ (hK γ w1 (fun _ _ => rfl) (RSW.same hW 0 (by decide))); go_simp; rfl
   | 1, ho =>
    injection ho with ho; subst ho
    have s0 := slA htm 17 0 (by kernel_rfl) (hpre ⟨0, .data⟩ (by simp) rfl)
    simp only [vKd2] at s0
    clear htm
    have hcc := HCC.out
    have hc4 : (4 : Int) ≤ (c : Int) := by omega
    refine val_now ?_ (hK γ w1 (fun _ _ => rfl) (RSW.same hW 1 (by decide))); go_simp; rfl
   | 2, ho =>
    injection ho with ho; subst ho
    have s1 := slA htm 18 1 (by kernel_rfl) (hpre ⟨1, .data⟩ (by simp) rfl)
    simp only [vKd2] at s1
    clear htm
    refine val_now ?_ (hK γ w1 (fun _ _ => rfl) (RSW.same hW 2 (by decide))); go_simp; rfl
   | 3, ho =>
    injection ho with ho; subst ho
    have s2 := slA htm 19 2 (by kernel_rfl) (hpre ⟨2, .data⟩ (by simp) rfl)
    simp only [vKd2] at s2
    clear htm
    have y0 := Chg.cell (RSW.chg hW) HC0_.out HGY.out
    have y1 := Chg.cell (RSW.chg hW) HC1_.out HGY.out
    have y2 := Chg.cell (RSW.chg hW) HC2_.out HGY.out
    have y3 := Chg.cell (RSW.chg hW) HC3_.out HGY.out
    refine val_now ?_ (hK γ w1 (fun _ _ => rfl) (RSW.same hW 3 (by decide))); go_simp; rfl
   | 4, ho =>
    injection ho with ho; subst ho
    have b7 : av.tmps.getD 7 undef = .slice (some ⟨g, 0, none⟩) 8 c := slB htm 7 (by kernel_rfl)
    clear htm
    refine val_now ?_ (hK γ w1 (fun _ _ => rfl) (RSW.same hW 4 (by decide))); go_simp; rfl
   | 5, ho =>
    injection ho with ho; subst ho
    have s4 := slA htm 21 4 (by kernel_rfl) (hpre ⟨4, .data⟩ (by simp) rfl)
    simp only [vKd2] at s4
    clear htm
    have hcc := HCC.out
    have hne : ¬ (c = 4) := by omega
    refine val_now ?_ (hK γ w1 (fun _ _ => rfl) (RSW.same hW 5 (by decide))); go_simp; (try rw [if_neg hne]); rfl
   | 6, ho =>
    injection ho with ho; subst ho
    have s5 := slA htm 22 5 (by kernel_rfl) (hpre ⟨5, .data⟩ (by simp) rfl)
    simp only [vKd2] at s5
    clear htm
    refine val_now ?_ (hK γ w1 (fun _ _ => rfl) (RSW.same hW 6 (by decide))); go_simp; rfl
   | 7, ho =>
    injection ho with ho; subst ho
    have s6 := slA htm 23 6 (by kernel_rfl) (hpre ⟨6, .data⟩ (by simp) rfl)
    simp only [vKd2] at s6
    clear htm
    have y0 := Chg.cell (RSW.chg hW) HC4_.out HGY.out
    have y1 := Chg.cell (RSW.chg hW) HC5_.out HGY.out
    have y2 := Chg.cell (RSW.chg hW) HC6_.out HGY.out
    have y3 := Chg.cell (RSW.chg hW) HC7_.out HGY.out
    refine val_now ?_ (hK γ w1 (fun _ _ => rfl) (RSW.same hW 7 (by decide))); go_simp; rfl
   | 8, ho =>
    injection ho with ho; subst ho
    have b8 : av.tmps.getD 8 undef = .int .i64 (sumC marksQuat) := slB htm 8 (by kernel_rfl)
    clear htm
    refine val_now ?_ (hK γ w1 (fun _ _ => rfl) (RSW.same hW 8 (by decide))); go_simp; rfl
   | 9, ho =>
    injection ho with ho; subst ho
    have b4 : av.tmps.getD 4 undef = .pointer (some ⟨Y, 0, none⟩) := slB htm 4 (by kernel_rfl)
    have s3 := slA htm 20 3 (by kernel_rfl) (hpre ⟨3, .data⟩ (by simp) rfl)
    simp only [vKd2] at s3
    clear htm
    have hm : cntE L (chKd2 0) = 0 := by simp [chKd2, cntE, hL]
    have hm2 : cntE (fun e => if e = 9 then true else L e) (chKd2 0) = 1 := by simp [chKd2, cntE]
    obtain ⟨F, hF, hF2, _⟩ := RSW.get hW 0 (by decide) hm
    obtain ⟨rfl, hb⟩ := hF
    have hb : Blk w1 Y _ _ := hb
    have hal := hb.lt
    have f0 := hb.frozen 0
    have z0 := hb.cell' (i := 0) rfl
    have f1 := hb.frozen 1
    have z1 := hb.cell' (i := 1) rfl
    have f2 := hb.frozen 2
    have z2 := hb.cell' (i := 2) rfl
    have f3 := hb.frozen 3
    have z3 := hb.cell' (i := 3) rfl
    refine skip_now (w' := ((((w1.setCell ⟨Y, 0, none⟩ (.int .i32 ((timesW p0 p1 p2 p3 q0 q1 q2 q3).a.v))).setCell ⟨Y, 1, none⟩ (.int .i32 ((timesW p0 p1 p2 p3 q0 q1 q2 q3).b.v))).setCell ⟨Y, 2, none⟩ (.int .i32 ((timesW p0 p1 p2 p3 q0 q1 q2 q3).c.v))).setCell ⟨Y, 3, none⟩ (.int .i32 ((timesW p0 p1 p2 p3 q0 q1 q2 q3).d.v)))) ?_ (hK γ _ (fun _ _ => rfl) (RSW.eff (γ' := γ) (stKd2 p0 p1 p2 p3 q0 q1 q2 q3 g c Y Z) HZ2.out hW 9 0 (by decide) (by decide) hm hm2 (fun F0 hF0 => ?_) (fun q hq hn F h => h)))
    · go_simp
    · obtain ⟨rfl, hb0⟩ := hF0
      have hcc := (((((Chg.refl w1 [Y]).setCell ⟨Y, 0, none⟩ (.int .i32 ((timesW p0 p1 p2 p3 q0 q1 q2 q3).a.v)) (.inl (List.mem_singleton.2 rfl))).setCell ⟨Y, 1, none⟩ (.int .i32 ((timesW p0 p1 p2 p3 q0 q1 q2 q3).b.v)) (.inl (List.mem_singleton.2 rfl))).setCell ⟨Y, 2, none⟩ (.int .i32 ((timesW p0 p1 p2 p3 q0 q1 q2 q3).c.v)) (.inl (List.mem_singleton.2 rfl))).setCell ⟨Y, 3, none⟩ (.int .i32 ((timesW p0 p1 p2 p3 q0 q1 q2 q3).d.v)) (.inl (List.mem_singleton.2 rfl)))
      refine ⟨[Y], hcc, Sub.refl _ _, fun k hk => ?_, rfl, ((((hb.set_ 0 (.int .i32 ((timesW p0 p1 p2 p3 q0 q1 q2 q3).a.v))).set_ 1 (.int .i32 ((timesW p0 p1 p2 p3 q0 q1 q2 q3).b.v))).set_ 2 (.int .i32 ((timesW p0 p1 p2 p3 q0 q1 q2 q3).c.v))).set_ 3 (.int .i32 ((timesW p0 p1 p2 p3 q0 q1 q2 q3).d.v)))⟩
      have hk : k = Y := by simpa using hk
      rw [hk]
      exact Nat.lt_of_lt_of_le hal hcc.size
   | 10, ho =>
    injection ho with ho; subst ho
    have b5 : av.tmps.getD 5 undef = .pointer (some ⟨Z, 0, none⟩) := slB htm 5 (by kernel_rfl)
    have s7 := slA htm 24 7 (by kernel_rfl) (hpre ⟨7, .data⟩ (by simp) rfl)
    simp only [vKd2] at s7
    clear htm
    have hm : cntE L (chKd2 1) = 0 := by simp [chKd2, cntE, hL]
    have hm2 : cntE (fun e => if e = 10 then true else L e) (chKd2 1) = 1 := by simp [chKd2, cntE]
    obtain ⟨F, hF, hF2, _⟩ := RSW.get hW 1 (by decide) hm
    obtain ⟨rfl, hb⟩ := hF
    have hb : Blk w1 Z _ _ := hb
    have hal := hb.lt
    have f0 := hb.frozen 0
    have z0 := hb.cell' (i := 0) rfl
    have f1 := hb.frozen 1
    have z1 := hb.cell' (i := 1) rfl
    have f2 := hb.frozen 2
    have z2 := hb.cell' (i := 2) rfl
    have f3 := hb.frozen 3
    have z3 := hb.cell' (i := 3) rfl
    refine skip_now (w' := ((((w1.setCell ⟨Z, 0, none⟩ (.int .i32 ((unitW p0 p1 p2 p3).a.v))).setCell ⟨Z, 1, none⟩ (.int .i32 ((unitW p0 p1 p2 p3).b.v))).setCell ⟨Z, 2, none⟩ (.int .i32 ((unitW p0 p1 p2 p3).c.v))).setCell ⟨Z, 3, none⟩ (.int .i32 ((unitW p0 p1 p2 p3).d.v)))) ?_ (hK γ _ (fun _ _ => rfl) (RSW.eff (γ' := γ) (stKd2 p0 p1 p2 p3 q0 q1 q2 q3 g c Y Z) HZ2.out hW 10 1 (by decide) (by decide) hm hm2 (fun F0 hF0 => ?_) (fun q hq hn F h => h)))
    · go_simp
    · obtain ⟨rfl, hb0⟩ := hF0
      have hcc := (((((Chg.refl w1 [Z]).setCell ⟨Z, 0, none⟩ (.int .i32 ((unitW p0 p1 p2 p3).a.v)) (.inl (List.mem_singleton.2 rfl))).setCell ⟨Z, 1, none⟩ (.int .i32 ((unitW p0 p1 p2 p3).b.v)) (.inl (List.mem_singleton.2 rfl))).setCell ⟨Z, 2, none⟩ (.int .i32 ((unitW p0 p1 p2 p3).c.v)) (.inl (List.mem_singleton.2 rfl))).setCell ⟨Z, 3, none⟩ (.int .i32 ((unitW p0 p1 p2 p3).d.v)) (.inl (List.mem_singleton.2 rfl)))
      refine ⟨[Z], hcc, Sub.refl _ _, fun k hk => ?_, rfl, ((((hb.set_ 0 (.int .i32 ((unitW p0 p1 p2 p3).a.v))).set_ 1 (.int .i32 ((unitW p0 p1 p2 p3).b.v))).set_ 2 (.int .i32 ((unitW p0 p1 p2 p3).c.v))).set_ 3 (.int .i32 ((unitW p0 p1 p2 p3).d.v)))⟩
      have hk : k = Z := by simpa using hk
      rw [hk]
      exact Nat.lt_of_lt_of_le hal hcc.size
   | 11, ho =>
    injection ho with ho; subst ho
    have s8 := slA htm 25 8 (by kernel_rfl) (hpre ⟨8, .data⟩ (by simp) rfl)
    simp only [vKd2] at s8
    clear htm
    refine val_now ?_ (hK γ w1 (fun _ _ => rfl) (RSW.same hW 11 (by decide))); go_simp; rfl
   | _ + 12, ho => cases ho
 case start =>
  have hq := HYQ.out
  have hpq := HPQ.out
  have hy := HYb2.out.lt
  have hz := HZb2.out.lt
  refine ⟨(Chg.refl W2 [Y, Z]).drew, fun j => if j = 0 then [Y] else [Z], fun j hj => ?_, fun i j k hi hj hij hk => ?_⟩
  · match j, hj with
    | 0, _ => exact ⟨⟨rfl, HYb2.out.chg (Chg.refl W2 []).drew (by simp)⟩, fun k hk => .inl (by simp at hk; simp [hk]), fun k hk => by simp at hk; subst hk; exact ⟨hy, hq⟩⟩
    | 1, _ => exact ⟨⟨rfl, HZb2.out.chg (Chg.refl W2 []).drew (by simp)⟩, fun k hk => .inl (by simp at hk; simp [hk]), fun k hk => by simp at hk; subst hk; exact ⟨hz, by omega⟩⟩
  · match i, j, hi, hj with
    | 0, 0, _, _ => exact absurd rfl hij
    | 0, 1, _, _ => simp at hk ⊢; omega
    | 1, 0, _, _ => simp at hk ⊢; omega
    | 1, 1, _, _ => exact absurd rfl hij
 case fin =>
 intro γ W4 hW
 obtain ⟨_, ⟨_, hY⟩, _⟩ := RSW.get hW 0 (by decide) (m := 1) rfl
 obtain ⟨_, ⟨_, hZ⟩, _⟩ := RSW.get hW 1 (by decide) (m := 1) rfl
 have hc4 := hW.chg
 have HC4 := hide (HC2.out.trans hc4 (fun k hk => .inr (by have := HPQ.out; simp at hk; omega)))
 have HY4 := hide (show Blk W4 Y 44 [.int .i32 ((timesW p0 p1 p2 p3 q0 q1 q2 q3).a.v), .int .i32 ((timesW p0 p1 p2 p3 q0 q1 q2 q3).b.v), .int .i32 ((timesW p0 p1 p2 p3 q0 q1 q2 q3).c.v), .int .i32 ((timesW p0 p1 p2 p3 q0 q1 q2 q3).d.v)] from hY)
 have HZ4 := hide (show Blk W4 Z 44 [.int .i32 ((unitW p0 p1 p2 p3).a.v), .int .i32 ((unitW p0 p1 p2 p3).b.v), .int .i32 ((unitW p0 p1 p2 p3).c.v), .int .i32 ((unitW p0 p1 p2 p3).d.v)] from hZ)
 rw [finG_puts, putsR_list, putsL_dst]
 simp only [List.map_cons, List.map_nil]
 rw [putsKd2]
 simp only [vKd2]
 clear hW hY hZ hc4
 go_wp2
 refine bodyPost_ret (v := .tuple #[.agg #[.int .i32 ((timesW p0 p1 p2 p3 q0 q1 q2 q3).a.v), .int .i32 ((timesW p0 p1 p2 p3 q0 q1 q2 q3).b.v), .int .i32 ((timesW p0 p1 p2 p3 q0 q1 q2 q3).c.v), .int .i32 ((timesW p0 p1 p2 p3 q0 q1 q2 q3).d.v)], .agg #[.int .i32 ((unitW p0 p1 p2 p3).a.v), .int .i32 ((unitW p0 p1 p2 p3).b.v), .int .i32 ((unitW p0 p1 p2 p3).c.v), .int .i32 ((unitW p0 p1 p2 p3).d.v)], .int .i64 (sumC marksQuat)]) ?_ rfl ⟨rfl, HC4.out⟩
 exact results_cct (c := 4) (d := 5) (u := 6) (T := 44) (T' := 44) rfl _ _ W4 rfl (run_loadVar_row W4 Y 44 44 #[.int .i32 ((timesW p0 p1 p2 p3 q0 q1 q2 q3).a.v), .int .i32 ((timesW p0 p1 p2 p3 q0 q1 q2 q3).b.v), .int .i32 ((timesW p0 p1 p2 p3 q0 q1 q2 q3).c.v), .int .i32 ((timesW p0 p1 p2 p3 q0 q1 q2 q3).d.v)] (0, 0) _ HY4.out Tryz.underlying44 rfl (by kernel_rfl)) rfl (run_loadVar_row W4 Z 44 44 #[.int .i32 ((unitW p0 p1 p2 p3).a.v), .int .i32 ((unitW p0 p1 p2 p3).b.v), .int .i32 ((unitW p0 p1 p2 p3).c.v), .int .i32 ((unitW p0 p1 p2 p3).d.v)] (0, 0) _ HZ4.out Tryz.underlying44 rfl (by kernel_rfl))
end Go.Proofs.YtakkofepcbkbkaaGreatDoor

/- astrolabelaw29.awake. -/
namespace Go.Proofs.YtakkofepcbkbkaaGreatDoor
open Go Go.RowKit Go.Deep Go.Maps Go.Proofs.YtakkofepcbkbkaaGreatDoor.Ab
set_option linter.unusedVariables false
attribute [local go_sem] Oper.semAt_some
set_option maxRecDepth 100000 in
theorem one_quat : (kW 1073741824).v = 1073741824 ∧ (kW 0).v = 0 ∧ decide (0 < sumC marksQuat) = true := by
 refine ⟨?_, ?_, ?_⟩ <;> kernel_rfl
set_option maxRecDepth 100000 in
theorem one_times : (timesW (kW 1073741824) (kW 0) (kW 0) (kW 0) (kW 1073741824) (kW 0) (kW 0) (kW 0)).a.v = 1073741824 ∧ (timesW (kW 1073741824) (kW 0) (kW 0) (kW 0) (kW 1073741824) (kW 0) (kW 0) (kW 0)).b.v = 0 ∧ (timesW (kW 1073741824) (kW 0) (kW 0) (kW 0) (kW 1073741824) (kW 0) (kW 0) (kW 0)).c.v = 0 ∧ (timesW (kW 1073741824) (kW 0) (kW 0) (kW 0) (kW 1073741824) (kW 0) (kW 0) (kW 0)).d.v = 0 := by
 refine ⟨?_, ?_, ?_, ?_⟩ <;> kernel_rfl
set_option maxRecDepth 100000 in
set_option maxHeartbeats 1000000 in
theorem awake29_calls {w : World} (hg : Glo w) : Calls Tryz.prog 26 #[] w fun e w' => e = .returned (.bool true) ∧ Chg w w' [] := by
 obtain ⟨u0, u1, u2, u3, s, hs, hd⟩ : ∃ u0 u1 u2 u3 s : Int, 0 < s ∧ Hid (∀ w1, Chg w w1 [] → Calls Tryz.prog 22 #[.agg #[.int .i32 1073741824, .int .i32 0, .int .i32 0, .int .i32 0], .agg #[.int .i32 1073741824, .int .i32 0, .int .i32 0, .int .i32 0]] w1 fun e w' => e = .returned (.tuple #[.agg #[.int .i32 1073741824, .int .i32 0, .int .i32 0, .int .i32 0], .agg #[.int .i32 u0, .int .i32 u1, .int .i32 u2, .int .i32 u3], .int .i64 s]) ∧ Chg w1 w' []) := by
  refine ⟨(unitW (kW 1073741824) (kW 0) (kW 0) (kW 0)).a.v, (unitW (kW 1073741824) (kW 0) (kW 0) (kW 0)).b.v, (unitW (kW 1073741824) (kW 0) (kW 0) (kW 0)).c.v, (unitW (kW 1073741824) (kW 0) (kW 0) (kW 0)).d.v, sumC marksQuat, of_decide_eq_true one_quat.2.2, hide fun w1 hc => ?_⟩
  have h := kquat_do (hg.chg hc (by simp)) (kW 1073741824) (kW 0) (kW 0) (kW 0) (kW 1073741824) (kW 0) (kW 0) (kW 0)
  rw [one_times.1, one_times.2.1, one_times.2.2.1, one_times.2.2.2, one_quat.1, one_quat.2.1] at h
  exact h
 have q3 : decide (0 < s) = true := decide_eq_true hs
 have EQ := eql_quat 1073741824 0 0 0
 have hb1 := Blk.new w 44 [.int .i32 1073741824, .int .i32 0, .int .i32 0, .int .i32 0]
 have HB := hide hb1
 clear hg hs hb1
 go_enter Tryz.func26, Tryz.ntmps26
 go_wp2_with fail
 go_at_call 22
 refine (hd.out _ ?_).mono ?_
 · repeat (first | exact Chg.refl w [] | refine Chg.alloc ?_ _ | refine Chg.setCell ?_ _ _ (.inr (by simp)))
 rintro e w1 ⟨rfl, hc⟩
 have HC := hide hc
 have y0 := (HB.out.chg hc (by simp)).cell' (i := 0) rfl
 have y1 := (HB.out.chg hc (by simp)).cell' (i := 1) rfl
 have y2 := (HB.out.chg hc (by simp)).cell' (i := 2) rfl
 have y3 := (HB.out.chg hc (by simp)).cell' (i := 3) rfl
 have hlt := (HB.out.chg hc (by simp)).lt
 clear hc
 go_wp2
 go_ret
 exact ⟨rfl, (((((Chg.refl w []).alloc _).trans HC.out (by simp)).alloc _).alloc _)⟩
end Go.Proofs.YtakkofepcbkbkaaGreatDoor
