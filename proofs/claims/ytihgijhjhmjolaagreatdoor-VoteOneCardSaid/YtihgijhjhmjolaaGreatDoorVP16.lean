/- Texts of this claim, side by side: ModelL, ModelV, PanelA, EqA, PanelB. -/
import Derived.Test.YtihgijhjhmjolaaGreatDoorVP15
import Derived.Test.YtihgijhjhmjolaaGreatDoorVP2
import Derived.Test.YtihgijhjhmjolaaGreatDoorVP12
import Derived.WalkKit
import Derived.OwnWalk
import Derived.Deep.RegionLaw
import Derived.Lib.SliceRun
/- Feed of bytes of another length. -/
namespace Go.Proofs.YtihgijhjhmjolaaGreatDoor
open Go.RowKit Go.Deep Xi
set_option linter.unusedVariables false
def errLen (n : Nat) : Int := if n < 20 then 4 else 5
def zero9 : Value := .agg #[.int .i32 0, .int .i32 0, .int .i32 0, .int .i32 0, .int .i32 0, .int .i32 0, .int .i32 0, .int .i32 0, .int .i32 0]
set_option maxRecDepth 100000 in
set_option maxHeartbeats 2000000 in
theorem read_len (A : Option Addr) (n m : Nat) (hn : n ≠ 20) (hm : n ≤ maxLen) (w : World) : Calls Tryz.prog 28 #[.slice A n m] w fun e w' => e = .returned (.tuple #[zero9, .bool false, .int .i64 (errLen n)]) ∧ Chg w w' [] := by
 have b1 := Blk.new (w.alloc (.cells #[.slice A n m] 26)) 65 [.int .i32 0, .int .i32 0, .int .i32 0, .int .i32 0, .int .i32 0, .int .i32 0, .int .i32 0, .int .i32 0, .int .i32 0]
 simp only [size_alloc] at b1
 have hc := ((Chg.refl w []).alloc (.cells #[.slice A n m] 26)).alloc (.cells #[.int .i32 0, .int .i32 0, .int .i32 0, .int .i32 0, .int .i32 0, .int .i32 0, .int .i32 0, .int .i32 0, .int .i32 0] 65)
 have uc0 := b1.cell' (i := 0) rfl
 have uf0 := b1.frozen 0
 have uc1 := b1.cell' (i := 1) rfl
 have uf1 := b1.frozen 1
 have uc2 := b1.cell' (i := 2) rfl
 have uf2 := b1.frozen 2
 have uc3 := b1.cell' (i := 3) rfl
 have uf3 := b1.frozen 3
 have uc4 := b1.cell' (i := 4) rfl
 have uf4 := b1.frozen 4
 have uc5 := b1.cell' (i := 5) rfl
 have uf5 := b1.frozen 5
 have uc6 := b1.cell' (i := 6) rfl
 have uf6 := b1.frozen 6
 have uc7 := b1.cell' (i := 7) rfl
 have uf7 := b1.frozen 7
 have uc8 := b1.cell' (i := 8) rfl
 have uf8 := b1.frozen 8
 unfold zero9
 by_cases h : n < 20
 · have e : errLen n = 4 := by unfold errLen; rw [if_pos h]
   have k0 : decide ((n : Int) < 20) = true := by simp; omega
   rw [e]
   clear e
   go_enter Tryz.func28, Tryz.ntmps28
   go_wp2_with fail
   refine bodyPost_ret (results_ctt rfl _ _ _ (A := ⟨w.heap.size + 1, 0, none⟩) rfl (v := .agg #[.int .i32 0, .int .i32 0, .int .i32 0, .int .i32 0, .int .i32 0, .int .i32 0, .int .i32 0, .int .i32 0, .int .i32 0]) ?_) rfl ?_
   · go_simp
   · exact ⟨rfl, hc⟩
 · have e : errLen n = 5 := by unfold errLen; rw [if_neg h]
   have k0 : decide ((n : Int) < 20) = false := by simp; omega
   have k1 : decide ((n : Int) > 20) = true := by simp; omega
   rw [e]
   clear e
   go_enter Tryz.func28, Tryz.ntmps28
   go_wp2_with fail
   refine bodyPost_ret (results_ctt rfl _ _ _ (A := ⟨w.heap.size + 1, 0, none⟩) rfl (v := .agg #[.int .i32 0, .int .i32 0, .int .i32 0, .int .i32 0, .int .i32 0, .int .i32 0, .int .i32 0, .int .i32 0, .int .i32 0]) ?_) rfl ?_
   · go_simp
   · exact ⟨rfl, hc⟩
set_option maxRecDepth 100000 in
set_option maxHeartbeats 2000000 in
theorem rread_len (A : Option Addr) (n m : Nat) (hn : n ≠ 20) (hm : n ≤ maxLen) (w : World) : Calls Tryz.prog 31 #[.slice A n m] w fun e w' => e = .returned (.tuple #[zero9, .bool false, .int .i64 (errLen n)]) ∧ Chg w w' [] := by
 have b1 := Blk.new w 65 [.int .i32 0, .int .i32 0, .int .i32 0, .int .i32 0, .int .i32 0, .int .i32 0, .int .i32 0, .int .i32 0, .int .i32 0]
 have hc := (Chg.refl w []).alloc (.cells #[.int .i32 0, .int .i32 0, .int .i32 0, .int .i32 0, .int .i32 0, .int .i32 0, .int .i32 0, .int .i32 0, .int .i32 0] 65)
 have uc0 := b1.cell' (i := 0) rfl
 have uf0 := b1.frozen 0
 have uc1 := b1.cell' (i := 1) rfl
 have uf1 := b1.frozen 1
 have uc2 := b1.cell' (i := 2) rfl
 have uf2 := b1.frozen 2
 have uc3 := b1.cell' (i := 3) rfl
 have uf3 := b1.frozen 3
 have uc4 := b1.cell' (i := 4) rfl
 have uf4 := b1.frozen 4
 have uc5 := b1.cell' (i := 5) rfl
 have uf5 := b1.frozen 5
 have uc6 := b1.cell' (i := 6) rfl
 have uf6 := b1.frozen 6
 have uc7 := b1.cell' (i := 7) rfl
 have uf7 := b1.frozen 7
 have uc8 := b1.cell' (i := 8) rfl
 have uf8 := b1.frozen 8
 unfold zero9
 by_cases h : n < 20
 · have e : errLen n = 4 := by unfold errLen; rw [if_pos h]
   have k0 : decide ((n : Int) < 20) = true := by simp; omega
   rw [e]
   clear e
   go_enter Tryz.func31, Tryz.ntmps31
   go_wp2_with fail
   refine bodyPost_ret (results_ctt rfl _ _ _ (A := ⟨w.heap.size, 0, none⟩) rfl (v := .agg #[.int .i32 0, .int .i32 0, .int .i32 0, .int .i32 0, .int .i32 0, .int .i32 0, .int .i32 0, .int .i32 0, .int .i32 0]) ?_) rfl ?_
   · go_simp
   · exact ⟨rfl, hc⟩
 · have e : errLen n = 5 := by unfold errLen; rw [if_neg h]
   have k0 : decide ((n : Int) < 20) = false := by simp; omega
   have k1 : decide ((n : Int) > 20) = true := by simp; omega
   rw [e]
   clear e
   go_enter Tryz.func31, Tryz.ntmps31
   go_wp2_with fail
   refine bodyPost_ret (results_ctt rfl _ _ _ (A := ⟨w.heap.size, 0, none⟩) rfl (v := .agg #[.int .i32 0, .int .i32 0, .int .i32 0, .int .i32 0, .int .i32 0, .int .i32 0, .int .i32 0, .int .i32 0, .int .i32 0]) ?_) rfl ?_
   · go_simp
   · exact ⟨rfl, hc⟩
set_option maxRecDepth 100000 in
set_option maxHeartbeats 4000000 in
theorem pfeed_len {x : St} (hr : x.right) (A : Option Addr) (n m : Nat) (hn : n ≠ 20) (hm : n ≤ maxLen) (w : World) :
 Calls Tryz.prog 10 #[x.val, .slice A n m] w fun e w' => e = .returned (.tuple #[x.val, .slice none 0 0, .int .i64 (errLen n)]) ∧ Chg w w' [] := by
 obtain ⟨h1, h2, h3⟩ := hr
 have hgs := good_in7 (a := x.q.a) (b := x.q.b) (c := x.q.c) (d := x.q.d) (good_16 h1) (good_16 h2) (good_16 h3)
 have HR := fun w => hide (pright_calls x.q.a x.q.b x.q.c x.q.d x.s x.f x.g hgs w)
 rw [(rightB_iff x.s x.f x.g).2 ⟨h1, h2, h3⟩] at HR
 have HE := hide (show (errLen n != 0) = true by unfold errLen; split <;> rfl)
 show Calls Tryz.prog 10 #[stV x.q.a x.q.b x.q.c x.q.d x.s x.f x.g, .slice A n m] w fun e w' => e = .returned (.tuple #[stV x.q.a x.q.b x.q.c x.q.d x.s x.f x.g, .slice none 0 0, .int .i64 (errLen n)]) ∧ Chg w w' []
 have RL := fun w => hide (read_len A n m hn hm w)
 generalize errLen n = E at *
 unfold stV at *
 clear hgs
 have b0 := (Blk.new w 25 [.int .i32 x.q.a.v, .int .i32 x.q.b.v, .int .i32 x.q.c.v, .int .i32 x.q.d.v, .int .i64 x.s, .int .i64 x.f, .int .i64 x.g]).alloc (.cells #[.int .i32 0, .int .i32 0, .int .i32 0, .int .i32 0, .int .i64 0, .int .i64 0, .int .i64 0] 25)
 have b1 := Blk.new (w.alloc (.cells #[.int .i32 x.q.a.v, .int .i32 x.q.b.v, .int .i32 x.q.c.v, .int .i32 x.q.d.v, .int .i64 x.s, .int .i64 x.f, .int .i64 x.g] 25)) 25 [.int .i32 0, .int .i32 0, .int .i32 0, .int .i32 0, .int .i64 0, .int .i64 0, .int .i64 0]
 simp only [size_alloc] at b1
 have hc := ((Chg.refl w []).alloc (.cells #[.int .i32 x.q.a.v, .int .i32 x.q.b.v, .int .i32 x.q.c.v, .int .i32 x.q.d.v, .int .i64 x.s, .int .i64 x.f, .int .i64 x.g] 25)).alloc (.cells #[.int .i32 0, .int .i32 0, .int .i32 0, .int .i32 0, .int .i64 0, .int .i64 0, .int .i64 0] 25)
 go_enter Tryz.func10, Tryz.ntmps10
 go_wp2_with fail
 refine (HR _).out.mono ?_
 rintro e w3 ⟨rfl, hc3⟩
 replace hc := hc.trans hc3 (D := []) (by simp)
 replace b0 := b0.chg hc3 (by simp)
 replace b1 := b1.chg hc3 (by simp)
 clear hc3
 have uc0 := b0.cell' (i := 0) rfl
 have uf0 := b0.frozen 0
 have uc1 := b0.cell' (i := 1) rfl
 have uf1 := b0.frozen 1
 have uc2 := b0.cell' (i := 2) rfl
 have uf2 := b0.frozen 2
 have uc3 := b0.cell' (i := 3) rfl
 have uf3 := b0.frozen 3
 have uc4 := b0.cell' (i := 4) rfl
 have uf4 := b0.frozen 4
 have uc5 := b0.cell' (i := 5) rfl
 have uf5 := b0.frozen 5
 have uc6 := b0.cell' (i := 6) rfl
 have uf6 := b0.frozen 6
 go_wp2_with fail
 refine (RL w3).out.mono ?_
 unfold zero9
 rintro e w4 ⟨rfl, hc4⟩
 replace hc := hc.trans hc4 (D := []) (by simp)
 replace b0 := b0.chg hc4 (by simp)
 replace b1 := b1.chg hc4 (by simp)
 clear hc4
 clear uc0 uf0 uc1 uf1 uc2 uf2 uc3 uf3 uc4 uf4 uc5 uf5 uc6 uf6
 have hk := HE.out
 go_upto_region 5 with (fail)
 replace b0 := b0.alloc (.cells #[.int .i32 0, .int .i32 0, .int .i32 0, .int .i32 0, .int .i32 0, .int .i32 0, .int .i32 0, .int .i32 0, .int .i32 0] 65)
 replace b1 := b1.alloc (.cells #[.int .i32 0, .int .i32 0, .int .i32 0, .int .i32 0, .int .i32 0, .int .i32 0, .int .i32 0, .int .i32 0, .int .i32 0] 65)
 replace hc := hc.alloc (.cells #[.int .i32 0, .int .i32 0, .int .i32 0, .int .i32 0, .int .i32 0, .int .i32 0, .int .i32 0, .int .i32 0, .int .i32 0] 65)
 generalize (w4.alloc (.cells #[.int .i32 0, .int .i32 0, .int .i32 0, .int .i32 0, .int .i32 0, .int .i32 0, .int .i32 0, .int .i32 0, .int .i32 0] 65)) = w5 at *
 have uc0 := b0.cell' (i := 0) rfl
 have uf0 := b0.frozen 0
 have uc1 := b0.cell' (i := 1) rfl
 have uf1 := b0.frozen 1
 have uc2 := b0.cell' (i := 2) rfl
 have uf2 := b0.frozen 2
 have uc3 := b0.cell' (i := 3) rfl
 have uf3 := b0.frozen 3
 have uc4 := b0.cell' (i := 4) rfl
 have uf4 := b0.frozen 4
 have uc5 := b0.cell' (i := 5) rfl
 have uf5 := b0.frozen 5
 have uc6 := b0.cell' (i := 6) rfl
 have uf6 := b0.frozen 6
 have vc0 := b1.cell' (i := 0) rfl
 have vf0 := b1.frozen 0
 have vc1 := b1.cell' (i := 1) rfl
 have vf1 := b1.frozen 1
 have vc2 := b1.cell' (i := 2) rfl
 have vf2 := b1.frozen 2
 have vc3 := b1.cell' (i := 3) rfl
 have vf3 := b1.frozen 3
 have vc4 := b1.cell' (i := 4) rfl
 have vf4 := b1.frozen 4
 have vc5 := b1.cell' (i := 5) rfl
 have vf5 := b1.frozen 5
 have vc6 := b1.cell' (i := 6) rfl
 have vf6 := b1.frozen 6
 go_wp2_with fail
 change bodyPost _ _ _ _ _ (put7 w5 (w.heap.size + 1) (.int .i32 x.q.a.v) (.int .i32 x.q.b.v) (.int .i32 x.q.c.v) (.int .i32 x.q.d.v) (.int .i64 x.s) (.int .i64 x.f) (.int .i64 x.g))
 have hcf := put7_chg w5 (w.heap.size + 1) (.int .i32 x.q.a.v) (.int .i32 x.q.b.v) (.int .i32 x.q.c.v) (.int .i32 x.q.d.v) (.int .i64 x.s) (.int .i64 x.f) (.int .i64 x.g)
 have kf := put7_blk b1 (.int .i32 x.q.a.v) (.int .i32 x.q.b.v) (.int .i32 x.q.c.v) (.int .i32 x.q.d.v) (.int .i64 x.s) (.int .i64 x.f) (.int .i64 x.g)
 replace hc := hc.trans hcf (D := []) (fun k hk => by simp at hk; omega)
 generalize put7 w5 (w.heap.size + 1) (.int .i32 x.q.a.v) (.int .i32 x.q.b.v) (.int .i32 x.q.c.v) (.int .i32 x.q.d.v) (.int .i64 x.s) (.int .i64 x.f) (.int .i64 x.g) = wf at *
 have tc0 := kf.cell' (i := 0) rfl
 have tc1 := kf.cell' (i := 1) rfl
 have tc2 := kf.cell' (i := 2) rfl
 have tc3 := kf.cell' (i := 3) rfl
 have tc4 := kf.cell' (i := 4) rfl
 have tc5 := kf.cell' (i := 5) rfl
 have tc6 := kf.cell' (i := 6) rfl
 refine bodyPost_ret (results_ctt rfl _ _ _ (A := ⟨w.heap.size + 1, 0, none⟩) rfl (v := .agg #[.int .i32 x.q.a.v, .int .i32 x.q.b.v, .int .i32 x.q.c.v, .int .i32 x.q.d.v, .int .i64 x.s, .int .i64 x.f, .int .i64 x.g]) ?_) rfl ?_
 · go_simp
 · exact ⟨rfl, hc⟩
set_option maxRecDepth 100000 in
set_option maxHeartbeats 4000000 in
theorem rfeed_len {x : St} (hr : x.right) (A : Option Addr) (n m : Nat) (hn : n ≠ 20) (hm : n ≤ maxLen) (w : World) :
 Calls Tryz.prog 11 #[x.val, .slice A n m] w fun e w' => e = .returned (.tuple #[x.val, .slice none 0 0, .int .i64 (errLen n)]) ∧ Chg w w' [] := by
 obtain ⟨h1, h2, h3⟩ := hr
 have hgs := good_in7 (a := x.q.a) (b := x.q.b) (c := x.q.c) (d := x.q.d) (good_16 h1) (good_16 h2) (good_16 h3)
 have HR := fun w => hide (rright_calls x.q.a x.q.b x.q.c x.q.d x.s x.f x.g hgs w)
 rw [(rightB_iff x.s x.f x.g).2 ⟨h1, h2, h3⟩] at HR
 have HE := hide (show (errLen n != 0) = true by unfold errLen; split <;> rfl)
 show Calls Tryz.prog 11 #[stV x.q.a x.q.b x.q.c x.q.d x.s x.f x.g, .slice A n m] w fun e w' => e = .returned (.tuple #[stV x.q.a x.q.b x.q.c x.q.d x.s x.f x.g, .slice none 0 0, .int .i64 (errLen n)]) ∧ Chg w w' []
 have RL := fun w => hide (rread_len A n m hn hm w)
 generalize errLen n = E at *
 unfold stV at *
 clear hgs
 have b0 := (Blk.new w 25 [.int .i32 x.q.a.v, .int .i32 x.q.b.v, .int .i32 x.q.c.v, .int .i32 x.q.d.v, .int .i64 x.s, .int .i64 x.f, .int .i64 x.g]).alloc (.cells #[.int .i32 0, .int .i32 0, .int .i32 0, .int .i32 0, .int .i64 0, .int .i64 0, .int .i64 0] 25)
 have b1 := Blk.new (w.alloc (.cells #[.int .i32 x.q.a.v, .int .i32 x.q.b.v, .int .i32 x.q.c.v, .int .i32 x.q.d.v, .int .i64 x.s, .int .i64 x.f, .int .i64 x.g] 25)) 25 [.int .i32 0, .int .i32 0, .int .i32 0, .int .i32 0, .int .i64 0, .int .i64 0, .int .i64 0]
 simp only [size_alloc] at b1
 have hc := ((Chg.refl w []).alloc (.cells #[.int .i32 x.q.a.v, .int .i32 x.q.b.v, .int .i32 x.q.c.v, .int .i32 x.q.d.v, .int .i64 x.s, .int .i64 x.f, .int .i64 x.g] 25)).alloc (.cells #[.int .i32 0, .int .i32 0, .int .i32 0, .int .i32 0, .int .i64 0, .int .i64 0, .int .i64 0] 25)
 go_enter Tryz.func11, Tryz.ntmps11
 go_wp2_with fail
 refine (HR _).out.mono ?_
 rintro e w3 ⟨rfl, hc3⟩
 replace hc := hc.trans hc3 (D := []) (by simp)
 replace b0 := b0.chg hc3 (by simp)
 replace b1 := b1.chg hc3 (by simp)
 clear hc3
 have uc0 := b0.cell' (i := 0) rfl
 have uf0 := b0.frozen 0
 have uc1 := b0.cell' (i := 1) rfl
 have uf1 := b0.frozen 1
 have uc2 := b0.cell' (i := 2) rfl
 have uf2 := b0.frozen 2
 have uc3 := b0.cell' (i := 3) rfl
 have uf3 := b0.frozen 3
 have uc4 := b0.cell' (i := 4) rfl
 have uf4 := b0.frozen 4
 have uc5 := b0.cell' (i := 5) rfl
 have uf5 := b0.frozen 5
 have uc6 := b0.cell' (i := 6) rfl
 have uf6 := b0.frozen 6
 go_wp2_with fail
 refine (RL w3).out.mono ?_
 unfold zero9
 rintro e w4 ⟨rfl, hc4⟩
 replace hc := hc.trans hc4 (D := []) (by simp)
 replace b0 := b0.chg hc4 (by simp)
 replace b1 := b1.chg hc4 (by simp)
 clear hc4
 clear uc0 uf0 uc1 uf1 uc2 uf2 uc3 uf3 uc4 uf4 uc5 uf5 uc6 uf6
 have hk := HE.out
 go_upto_region 5 with (fail)
 replace b0 := b0.alloc (.cells #[.int .i32 0, .int .i32 0, .int .i32 0, .int .i32 0, .int .i32 0, .int .i32 0, .int .i32 0, .int .i32 0, .int .i32 0] 65)
 replace b1 := b1.alloc (.cells #[.int .i32 0, .int .i32 0, .int .i32 0, .int .i32 0, .int .i32 0, .int .i32 0, .int .i32 0, .int .i32 0, .int .i32 0] 65)
 replace hc := hc.alloc (.cells #[.int .i32 0, .int .i32 0, .int .i32 0, .int .i32 0, .int .i32 0, .int .i32 0, .int .i32 0, .int .i32 0, .int .i32 0] 65)
 generalize (w4.alloc (.cells #[.int .i32 0, .int .i32 0, .int .i32 0, .int .i32 0, .int .i32 0, .int .i32 0, .int .i32 0, .int .i32 0, .int .i32 0] 65)) = w5 at *
 have uc0 := b0.cell' (i := 0) rfl
 have uf0 := b0.frozen 0
 have uc1 := b0.cell' (i := 1) rfl
 have uf1 := b0.frozen 1
 have uc2 := b0.cell' (i := 2) rfl
 have uf2 := b0.frozen 2
 have uc3 := b0.cell' (i := 3) rfl
 have uf3 := b0.frozen 3
 have uc4 := b0.cell' (i := 4) rfl
 have uf4 := b0.frozen 4
 have uc5 := b0.cell' (i := 5) rfl
 have uf5 := b0.frozen 5
 have uc6 := b0.cell' (i := 6) rfl
 have uf6 := b0.frozen 6
 have vc0 := b1.cell' (i := 0) rfl
 have vf0 := b1.frozen 0
 have vc1 := b1.cell' (i := 1) rfl
 have vf1 := b1.frozen 1
 have vc2 := b1.cell' (i := 2) rfl
 have vf2 := b1.frozen 2
 have vc3 := b1.cell' (i := 3) rfl
 have vf3 := b1.frozen 3
 have vc4 := b1.cell' (i := 4) rfl
 have vf4 := b1.frozen 4
 have vc5 := b1.cell' (i := 5) rfl
 have vf5 := b1.frozen 5
 have vc6 := b1.cell' (i := 6) rfl
 have vf6 := b1.frozen 6
 go_wp2_with fail
 change bodyPost _ _ _ _ _ (put7 w5 (w.heap.size + 1) (.int .i32 x.q.a.v) (.int .i32 x.q.b.v) (.int .i32 x.q.c.v) (.int .i32 x.q.d.v) (.int .i64 x.s) (.int .i64 x.f) (.int .i64 x.g))
 have hcf := put7_chg w5 (w.heap.size + 1) (.int .i32 x.q.a.v) (.int .i32 x.q.b.v) (.int .i32 x.q.c.v) (.int .i32 x.q.d.v) (.int .i64 x.s) (.int .i64 x.f) (.int .i64 x.g)
 have kf := put7_blk b1 (.int .i32 x.q.a.v) (.int .i32 x.q.b.v) (.int .i32 x.q.c.v) (.int .i32 x.q.d.v) (.int .i64 x.s) (.int .i64 x.f) (.int .i64 x.g)
 replace hc := hc.trans hcf (D := []) (fun k hk => by simp at hk; omega)
 generalize put7 w5 (w.heap.size + 1) (.int .i32 x.q.a.v) (.int .i32 x.q.b.v) (.int .i32 x.q.c.v) (.int .i32 x.q.d.v) (.int .i64 x.s) (.int .i64 x.f) (.int .i64 x.g) = wf at *
 have tc0 := kf.cell' (i := 0) rfl
 have tc1 := kf.cell' (i := 1) rfl
 have tc2 := kf.cell' (i := 2) rfl
 have tc3 := kf.cell' (i := 3) rfl
 have tc4 := kf.cell' (i := 4) rfl
 have tc5 := kf.cell' (i := 5) rfl
 have tc6 := kf.cell' (i := 6) rfl
 refine bodyPost_ret (results_ctt rfl _ _ _ (A := ⟨w.heap.size + 1, 0, none⟩) rfl (v := .agg #[.int .i32 x.q.a.v, .int .i32 x.q.b.v, .int .i32 x.q.c.v, .int .i32 x.q.d.v, .int .i64 x.s, .int .i64 x.f, .int .i64 x.g]) ?_) rfl ?_
 · go_simp
 · exact ⟨rfl, hc⟩
def feedR (x : St) (xs : List Nat) : St × List Nat × Int := bif x.rb then (bif decide (xs.length = 20) then (x.next xs, (x.next xs).frame (flN xs), 0) else (x, [], errLen xs.length)) else (x, [], 14)
def feedC (w : World) (x : St) (xs : List Nat) (e : Ending) (w' : World) : Prop := (∃ sv, e = .returned (.tuple #[(feedR x xs).1.val, sv, .int .i64 (feedR x xs).2.2]) ∧ Sl w' sv (u8s (feedR x xs).2.1)) ∧ Chg w w' []
theorem three_nil {w' : World} {us : List Value} {v : Value} {n : Int} (ha : ArgsOk [] w' us [.v v, nilS, .v (.int .i64 n)]) : ∃ sv, Ending.returned (outV true us) = .returned (.tuple #[v, sv, .int .i64 n]) ∧ Sl w' sv (u8s []) := by
 match us, ha with
 | [x, y, z], ha =>
  obtain ⟨rfl, rfl, rfl, _⟩ := ha
  exact ⟨_, rfl, nil_sl _⟩
theorem pfeed (x : St) (hx : x.i64) (xs : List Nat) (hb : ∀ y ∈ xs, y < 256) (hn : xs.length ≤ maxLen) (v : Value) (w : World) (hw : FTab w) (hv : Sl w v (u8s xs)) : Calls Tryz.prog 10 #[x.val, v] w fun e w' => feedC w x xs e w' := by
 obtain ⟨A, c, rfl, hcap, hA⟩ := hv
 have hsl : Sl w (.slice A (u8s xs).length c) (u8s xs) := ⟨A, c, rfl, hcap, hA⟩
 rw [u8s_length] at *
 cases hrb : x.rb with
 | false =>
  have hr : ObOk Tryz.prog (rightO x.q.a x.q.b x.q.c x.q.d x.s x.f x.g false) := fun w => by
   have := pright_calls x.q.a x.q.b x.q.c x.q.d x.s x.f x.g (x.good hx) w
   rwa [show rightB x.s x.f x.g = false from hrb] at this
  have e : feedR x xs = (x, [], 14) := by unfold feedR; rw [hrb]; rfl
  unfold feedC
  rw [e]
  refine (seenF_calls noE (pfeed_run14 x.q.a x.q.b x.q.c x.q.d x.s x.f x.g A xs.length c) (x.good hx) (obsKC (obK hr) obsK0) w hw [] (fun i cs hi => by cases hi) (fun v hv => by cases hv) (vals := [x.val, .slice A xs.length c]) rfl).mono ?_
  rintro e w' ⟨⟨us, ha, rfl⟩, hc⟩
  exact ⟨three_nil ha, hc⟩
 | true =>
  have hr := x.rb_iff.1 hrb
  by_cases h20 : xs.length = 20
  · have e : feedR x xs = (x.next xs, (x.next xs).frame (flN xs), 0) := by unfold feedR; rw [hrb, decide_eq_true h20]; rfl
    unfold feedC
    rw [e]
    obtain ⟨b, o, rfl, _⟩ := hA (by omega)
    rw [h20] at hsl ⊢
    exact pfeed_ok hr h20 hb b o c w hw hsl
  · have e : feedR x xs = (x, [], errLen xs.length) := by unfold feedR; rw [hrb, decide_eq_false h20]; rfl
    unfold feedC
    rw [e]
    refine (pfeed_len hr A xs.length c h20 hn w).mono ?_
    rintro e w' ⟨rfl, hc⟩
    exact ⟨⟨_, rfl, nil_sl _⟩, hc⟩
theorem rfeed (x : St) (hx : x.i64) (xs : List Nat) (hb : ∀ y ∈ xs, y < 256) (hn : xs.length ≤ maxLen) (v : Value) (w : World) (hw : FTab w) (hv : Sl w v (u8s xs)) : Calls Tryz.prog 11 #[x.val, v] w fun e w' => feedC w x xs e w' := by
 obtain ⟨A, c, rfl, hcap, hA⟩ := hv
 have hsl : Sl w (.slice A (u8s xs).length c) (u8s xs) := ⟨A, c, rfl, hcap, hA⟩
 rw [u8s_length] at *
 cases hrb : x.rb with
 | false =>
  have hr : ObOk Tryz.prog (rRightO x.q.a x.q.b x.q.c x.q.d x.s x.f x.g false) := fun w => by
   have := rright_calls x.q.a x.q.b x.q.c x.q.d x.s x.f x.g (x.good hx) w
   rwa [show rightB x.s x.f x.g = false from hrb] at this
  have e : feedR x xs = (x, [], 14) := by unfold feedR; rw [hrb]; rfl
  unfold feedC
  rw [e]
  refine (seenF_calls noE (rfeed_run14 x.q.a x.q.b x.q.c x.q.d x.s x.f x.g A xs.length c) (x.good hx) (obsKC (obK hr) obsK0) w hw [] (fun i cs hi => by cases hi) (fun v hv => by cases hv) (vals := [x.val, .slice A xs.length c]) rfl).mono ?_
  rintro e w' ⟨⟨us, ha, rfl⟩, hc⟩
  exact ⟨three_nil ha, hc⟩
 | true =>
  have hr := x.rb_iff.1 hrb
  by_cases h20 : xs.length = 20
  · have e : feedR x xs = (x.next xs, (x.next xs).frame (flN xs), 0) := by unfold feedR; rw [hrb, decide_eq_true h20]; rfl
    unfold feedC
    rw [e]
    obtain ⟨b, o, rfl, _⟩ := hA (by omega)
    rw [h20] at hsl ⊢
    exact rfeed_ok hr h20 hb w hw hsl
  · have e : feedR x xs = (x, [], errLen xs.length) := by unfold feedR; rw [hrb, decide_eq_false h20]; rfl
    unfold feedC
    rw [e]
    refine (rfeed_len hr A xs.length c h20 hn w).mono ?_
    rintro e w' ⟨rfl, hc⟩
    exact ⟨⟨_, rfl, nil_sl _⟩, hc⟩
end Go.Proofs.YtihgijhjhmjolaaGreatDoor

/- What the laws on models share: what Feed and Tell answer as bytes; the first state. -/
namespace Go.Proofs.YtihgijhjhmjolaaGreatDoor.Xi
open Go Go.RowKit Go.Deep
set_option linter.unusedVariables false
theorem body_lt (a b c d : Wd) (s f g : Int) {fl : Int} (h : 0 ≤ fl ∧ fl ≤ 7) : ∀ y ∈ bodyN a b c d s f g fl, y < 256 := fun y hy => by
 have h1 : (fl + (bif lockB a b c d then 8 else 0)).toNat < 256 := by cases lockB a b c d <;> simp <;> omega
 simp only [bodyN, b2, b4, List.cons_append, List.nil_append, List.mem_cons, List.not_mem_nil, or_false] at hy
 rcases hy with rfl | rfl | hy
 · decide
 · exact h1
 · rcases hy with rfl | rfl | rfl | rfl | rfl | rfl | rfl | rfl | rfl | rfl | rfl | rfl | rfl | rfl | rfl | rfl | rfl | rfl | rfl | rfl | rfl | rfl | rfl | rfl | rfl | rfl | rfl | rfl <;> exact byteN_lt _ _
theorem frame_lt (x : St) {fl : Int} (h : 0 ≤ fl ∧ fl ≤ 7) : ∀ y ∈ x.frame fl, y < 256 := sealN_lt (body_lt _ _ _ _ _ _ _ h)
theorem feedR_lt (x : St) {xs : List Nat} (hx : x.i64) : ∀ y ∈ (feedR x xs).2.1, y < 256 := by
 unfold feedR
 cases x.rb with
 | false => simp
 | true => cases decide (xs.length = 20) with
  | false => simp
  | true => exact frame_lt _ (flN_in xs)
def St.cells (x : St) : List Value := [.int .i32 x.q.a.v, .int .i32 x.q.b.v, .int .i32 x.q.c.v, .int .i32 x.q.d.v, .int .i64 x.s, .int .i64 x.f, .int .i64 x.g]
theorem c7 {w : World} {g : Nat} {t : TypeId} {a b c d e f h : Value} (H : Blk w g t [a, b, c, d, e, f, h]) : w.cell? ⟨g, 0, none⟩ = some a ∧ w.cell? ⟨g, 1, none⟩ = some b ∧ w.cell? ⟨g, 2, none⟩ = some c ∧ w.cell? ⟨g, 3, none⟩ = some d ∧ w.cell? ⟨g, 4, none⟩ = some e ∧ w.cell? ⟨g, 5, none⟩ = some f ∧ w.cell? ⟨g, 6, none⟩ = some h :=
 ⟨H.cell' (i := 0) rfl, H.cell' (i := 1) rfl, H.cell' (i := 2) rfl, H.cell' (i := 3) rfl, H.cell' (i := 4) rfl, H.cell' (i := 5) rfl, H.cell' (i := 6) rfl⟩
theorem St.val_eq (x : St) : x.val = .agg #[.int .i32 x.q.a.v, .int .i32 x.q.b.v, .int .i32 x.q.c.v, .int .i32 x.q.d.v, .int .i64 x.s, .int .i64 x.f, .int .i64 x.g] := rfl
end Go.Proofs.YtihgijhjhmjolaaGreatDoor.Xi
namespace Go.Proofs.YtihgijhjhmjolaaGreatDoor
open Go.RowKit Go.Deep Xi
set_option linter.unusedVariables false
def q1 : Q4 := ⟨kW 1073741824, kW 0, kW 0, kW 0⟩
def st0 : St := ⟨q1, 0, 0, 0⟩
theorem st0_right : st0.right := by unfold St.right st0 in16; simp
set_option maxRecDepth 100000 in
theorem reset_calls (w : World) : Calls Tryz.prog 14 #[] w fun e w' => e = .returned (.agg #[.int .i32 1073741824, .int .i32 0, .int .i32 0, .int .i32 0, .int .i64 0, .int .i64 0, .int .i64 0]) ∧ Chg w w' [] := by
 have h : runP (cxR [] [] []) (tabOf []) 200 14 [] [] = some (.agg #[.int .i32 1073741824, .int .i32 0, .int .i32 0, .int .i32 0, .int .i64 0, .int .i64 0, .int .i64 0], []) := by kernel_rfl
 exact cxR_calls _ h (fun v hv => by cases hv) obs0 w
end Go.Proofs.YtihgijhjhmjolaaGreatDoor

/- Panels of package vote: State, Odd, Reset. -/
namespace Go.Proofs.YtihgijhjhmjolaaGreatDoor.Xi
open Go Go.RowKit Go.Deep
set_option linter.unusedVariables false
def Pan (w : World) (p : Nat) (x : St) (a b c : Int) : Prop := Blk w p 82 [.int .i32 x.q.a.v, .int .i32 x.q.b.v, .int .i32 x.q.c.v, .int .i32 x.q.d.v, .int .i64 x.s, .int .i64 x.f, .int .i64 x.g, .int .i64 a, .int .i64 b, .int .i64 c, .bool true]
set_option maxRecDepth 100000 in
set_option maxHeartbeats 2000000 in
theorem panOdd_calls (x : St) (a b c : Int) (p : Nat) (w : World) (h : Pan w p x a b c) : Calls Tryz.prog 26 #[.pointer (some ⟨p, 0, none⟩)] w fun e w' => e = .returned (.agg #[.int .i64 a, .int .i64 b, .int .i64 c]) ∧ Chg w w' [] := by
 unfold Pan at h
 have h2 := h.alloc (.cells #[.int .i64 0, .int .i64 0, .int .i64 0] 50)
 have c7 := h2.cell' (i := 7) rfl
 have c8 := h2.cell' (i := 8) rfl
 have c9 := h2.cell' (i := 9) rfl
 have hp := h.lt
 replace h := hide h
 clear h2
 go_enter Tryz.func26, Tryz.ntmps26
 go_wp2_with fail
 refine bodyPost_ret (v := (.agg #[.int .i64 a, .int .i64 b, .int .i64 c])) (by simp [results, Tryz.f26, go_sem]) rfl ⟨rfl, (Chg.refl w []).alloc _⟩
set_option maxRecDepth 100000 in
set_option maxHeartbeats 2000000 in
theorem panState_calls (x : St) (a b c : Int) (p : Nat) (w : World) (h : Pan w p x a b c) : Calls Tryz.prog 23 #[.pointer (some ⟨p, 0, none⟩)] w fun e w' => e = .returned x.val ∧ Chg w w' [] := by
 unfold Pan at h
 have h2 := h.alloc (.cells #[.int .i32 0, .int .i32 0, .int .i32 0, .int .i32 0, .int .i64 0, .int .i64 0, .int .i64 0] 25)
 have c0 := h2.cell' (i := 0) rfl
 have c1 := h2.cell' (i := 1) rfl
 have c2 := h2.cell' (i := 2) rfl
 have c3 := h2.cell' (i := 3) rfl
 have c4 := h2.cell' (i := 4) rfl
 have c5 := h2.cell' (i := 5) rfl
 have c6 := h2.cell' (i := 6) rfl
 have hp := h.lt
 replace h := hide h
 clear h2
 rw [St.val_eq]
 go_enter Tryz.func23, Tryz.ntmps23
 go_wp2_with fail
 refine bodyPost_ret (v := (.agg #[.int .i32 x.q.a.v, .int .i32 x.q.b.v, .int .i32 x.q.c.v, .int .i32 x.q.d.v, .int .i64 x.s, .int .i64 x.f, .int .i64 x.g])) (by simp [results, Tryz.f23, go_sem]) rfl ⟨rfl, (Chg.refl w []).alloc _⟩
set_option maxRecDepth 100000 in
set_option maxHeartbeats 2000000 in
theorem panReset_calls (x : St) (a b c : Int) (p : Nat) (w : World) (h : Pan w p x a b c) : Calls Tryz.prog 22 #[.pointer (some ⟨p, 0, none⟩)] w fun e w' => e = .returned (.int .i64 0) ∧ Pan w' p st0 a b c ∧ Chg w w' [p] := by
 unfold Pan at h
 have c10 := h.cell' (i := 10) rfl
 replace h := hide h
 go_enter Tryz.func22, Tryz.ntmps22
 go_wp2_with fail
 refine (reset_calls w).mono ?_
 rintro e w1 ⟨rfl, hc⟩
 have h1 := h.out.chg hc (by simp)
 have f0 := h1.frozen 0
 have f1 := h1.frozen 1
 have f2 := h1.frozen 2
 have f3 := h1.frozen 3
 have f4 := h1.frozen 4
 have f5 := h1.frozen 5
 have f6 := h1.frozen 6
 have c0 := h1.cell' (i := 0) rfl
 have c1 := h1.cell' (i := 1) rfl
 have c2 := h1.cell' (i := 2) rfl
 have c3 := h1.cell' (i := 3) rfl
 have c4 := h1.cell' (i := 4) rfl
 have c5 := h1.cell' (i := 5) rfl
 have c6 := h1.cell' (i := 6) rfl
 replace h1 := hide h1
 replace hc := hide hc
 go_wp2_with fail
 go_ret
 refine ⟨rfl, ?_, (hc.out.more (D' := [p]) (by simp)).trans (put7_chg w1 p (.int .i32 1073741824) (.int .i32 0) (.int .i32 0) (.int .i32 0) (.int .i64 0) (.int .i64 0) (.int .i64 0)) (D := [p]) (fun k hk => .inl hk)⟩
 unfold Pan
 rw [show st0.q.a.v = 1073741824 by decide +kernel, show st0.q.b.v = 0 by decide +kernel, show st0.q.c.v = 0 by decide +kernel, show st0.q.d.v = 0 by decide +kernel]
 exact ((((((h1.out.set_ 0 _).set_ 1 _).set_ 2 _).set_ 3 _).set_ 4 _).set_ 5 _).set_ 6 _
set_option maxRecDepth 100000 in
set_option maxHeartbeats 2000000 in
theorem panNew_calls (w : World) : Calls Tryz.prog 18 #[] w fun e w' => ∃ p, e = .returned (.pointer (some ⟨p, 0, none⟩)) ∧ w.heap.size ≤ p ∧ Pan w' p st0 0 0 0 ∧ Chg w w' [] := by
 go_enter Tryz.func18, Tryz.ntmps18
 go_wp2_with fail
 refine (reset_calls w).mono ?_
 rintro e w1 ⟨rfl, hc⟩
 replace hc := hide hc
 go_wp2_with fail
 go_ret
 refine ⟨w1.heap.size, rfl, hc.out.size, ?_, hc.out.alloc _⟩
 unfold Pan
 rw [show st0.q.a.v = 1073741824 by decide +kernel, show st0.q.b.v = 0 by decide +kernel, show st0.q.c.v = 0 by decide +kernel, show st0.q.d.v = 0 by decide +kernel]
 exact Blk.new w1 _ _
def choiceR (ab ac bc : Bool) : Int × Int := bif ab && ac then (0, -1) else bif ab then (0, 2) else bif ac then (0, 1) else bif bc then (1, 0) else (-1, -1)
set_option maxRecDepth 100000 in
theorem choice_run (ab ac bc : Bool) : runP (cxR [] [] []) (tabOf []) 400 44 [.lit (.bool ab), .lit (.bool ac), .lit (.bool bc)] [] = some (.tuple #[.int .i64 (choiceR ab ac bc).1, .int .i64 (choiceR ab ac bc).2], []) := by
 cases ab <;> cases ac <;> cases bc <;> kernel_rfl
theorem choice_calls (ab ac bc : Bool) (w : World) : Calls Tryz.prog 44 #[.bool ab, .bool ac, .bool bc] w fun e w' => e = .returned (.tuple #[.int .i64 (choiceR ab ac bc).1, .int .i64 (choiceR ab ac bc).2]) ∧ Chg w w' [] :=
 cxR_calls _ (choice_run ab ac bc) (fun v hv => by cases hv) obs0 w
end Go.Proofs.YtihgijhjhmjolaaGreatDoor.Xi

/- Two answers compared. -/
namespace Go.Proofs.YtihgijhjhmjolaaGreatDoor.Xi
open Go Go.RowKit Go.Deep
set_option linter.unusedVariables false
theorem eqQ8 (x0 x1 x2 x3 y0 y1 y2 y3 : Int) (w : World) : (Op.equalIn 9998 23 (.agg #[.int .i32 x0, .int .i32 x1, .int .i32 x2, .int .i32 x3]) (.agg #[.int .i32 y0, .int .i32 y1, .int .i32 y2, .int .i32 y3])).run Tryz.prog w = .ok (x0 == y0 && x1 == y1 && x2 == y2 && x3 == y3) w := by
 have u3 := Tryz.underlying21
 have k3 := Tryz.isAgg21
 have z3 := Tryz.sizeOf21
 rw [show (9998 : Nat) = 9997 + 1 from rfl, Op.equalIn]
 simp only [Sem.run_bind, run_underlying Tryz.underlying23, Result.andThen_ok]
 simp only [Std.Legacy.Range.forIn_eq_forIn_range', Std.Legacy.Range.size, Nat.sub_zero, Nat.add_sub_cancel, Nat.div_one, List.range'_succ, List.range'_zero, List.forIn_cons, List.forIn_nil]
 go_simp
 by_cases h0 : x0 = y0 <;> by_cases h1 : x1 = y1 <;> by_cases h2 : x2 = y2 <;> by_cases h3 : x3 = y3 <;> simp [h0, h1, h2, h3]
theorem eqA (a0 a1 a2 a3 b0 b1 b2 b3 s f g s' f' g' e e' : Int) (t u : ByteArray) (w : World) : (Op.equalIn 10000 84 (.agg #[.int .i32 a0, .int .i32 a1, .int .i32 a2, .int .i32 a3, .int .i64 s, .int .i64 f, .int .i64 g, .string t, .int .i64 e]) (.agg #[.int .i32 b0, .int .i32 b1, .int .i32 b2, .int .i32 b3, .int .i64 s', .int .i64 f', .int .i64 g', .string u, .int .i64 e'])).run Tryz.prog w =
 .ok (((a0 == b0 && a1 == b1 && a2 == b2 && a3 == b3) && s == s' && f == f' && g == g') && t.toList == u.toList && e == e') w := by
 have u4 := Tryz.underlying25
 have k4 := Tryz.isAgg25
 have z4 := Tryz.sizeOf25
 have q := eqQ8 a0 a1 a2 a3 b0 b1 b2 b3 w
 rw [show (10000 : Nat) = 9999 + 1 from rfl, Op.equalIn]
 simp only [Sem.run_bind, run_underlying Tryz.underlying84, Result.andThen_ok]
 go_simp
 by_cases h0 : a0 = b0 <;> by_cases h1 : a1 = b1 <;> by_cases h2 : a2 = b2 <;> by_cases h3 : a3 = b3 <;> by_cases h4 : s = s' <;> by_cases h5 : f = f' <;> by_cases h6 : g = g' <;> by_cases h7 : t.toList = u.toList <;> by_cases h8 : e = e' <;> simp [h0, h1, h2, h3, h4, h5, h6, h7, h8]
end Go.Proofs.YtihgijhjhmjolaaGreatDoor.Xi

/- Three answers: a copy of them, and a copy without one. -/
namespace Go.Proofs.YtihgijhjhmjolaaGreatDoor.Xi
open Go Go.RowKit Go.Deep
set_option linter.unusedVariables false
theorem run_clear_one {P : Program} (w : World) (t e ty : TypeId) (z : Value) (zs : List Value) (ht : P.underlying t = some (.slice e)) (hv : ∀ w, (zeroValue e).run P w = .ok z w) (hz : z.cells = zs.toArray) (h0 : 0 < zs.length) (h1 : ∀ u ∈ zs, u.oneCell' = true) (b o c : Nat)
 (hc : ∀ j, j < zs.length → (w.cell? ⟨b, o + j, none⟩).isSome = true) (hf : ∀ j, j < zs.length → w.frozen? ⟨b, o + j, none⟩ = false) :
 (Builtin.clear_ #[t] ty #[.slice (some ⟨b, o, none⟩) 1 c]).run P w = .ok (.tuple #[]) (w.setCells b o zs) := by
 have hzc : (Builtin.zeroCells z.cells 1).toList = zs := by
  rw [hz]
  unfold Builtin.zeroCells
  apply List.ext_getElem
  · simp
  · intro i h1 h2
    simp [Nat.mod_eq_of_lt h2]
    rw [List.getElem?_eq_getElem h2]
    rfl
 have hst := run_storeCells_cells (P := P) b o zs 0 w (by simpa using hc) (by simpa using hf) h1
 simp only [Nat.add_zero] at hst
 simp [Builtin.clear_, run_underlying ht, hv, hzc, hst]
def zeroA : List Value := [.int .i32 0, .int .i32 0, .int .i32 0, .int .i32 0, .int .i64 0, .int .i64 0, .int .i64 0, .string ByteArray.empty, .int .i64 0]
set_option maxRecDepth 100000 in
set_option maxHeartbeats 4000000 in
theorem cloneA_calls (b : Nat) (news : List Value) (w : World) (hl : news.length = 27) (hb : Blk w b 85 news) (h1 : ∀ u ∈ news, u.oneCell' = true) :
 Calls Tryz.prog 84 #[.slice (some ⟨b, 0, none⟩) 3 3] w fun e w1 => ∃ g cap cur, e = .returned (.slice (some ⟨g, 0, none⟩) 3 cap) ∧ Chg w w1 [] ∧ w.heap.size ≤ g ∧ 3 ≤ cap ∧ cap ≤ maxLen ∧ Blk w1 g 84 cur ∧ cur.take 27 = news := by
 have A : Hid (∀ j u, news[j]? = some u → w.cell? ⟨b, 0 + j, none⟩ = some u) := hide (fun j u h => by rw [Nat.zero_add]; exact hb.cell' h)
 have H1 := hide h1
 have HL := hide hl
 clear hb h1 hl
 have hi : Tryz.prog.info? 84 = some Tryz.t84 := by kernel_rfl
 have hz0 : Tryz.t84.zero = some (.agg zeroA.toArray) := by kernel_rfl
 have hz1 : Tryz.t84.size = 9 := by kernel_rfl
 have hz2 : Tryz.t84.bytes = Tryz.t84.bytes := rfl
 have HI := hide hi
 have HZ0 := hide hz0
 have HZ1 := hide hz1
 have HB := hide (show 3 * Tryz.t84.bytes ≤ 140737488355328 by decide +kernel)
 clear hi hz0 hz1 hz2
 have q22 : ∀ (w : World) (a : Option Addr) (n c n' c' : Nat), (binOp .eql 136 (.slice a n c) (.slice none n' c')).run Tryz.prog w = .ok (.bool a.isNone) w := fun w a n c n' c' => Lib.run_eql_slice_nil w _ _ a n c n' c' Tryz.underlying136
 go_enter Tryz.func84, Tryz.ntmps84
 go_wp2_with (at_builtin; refine wpList_append_own _ rfl _ _ 136 rfl w.heap.size 84 Tryz.t84 (.agg zeroA.toArray) 9 Tryz.t84.bytes Tryz.underlying136 HI.out HZ0.out HZ1.out rfl rfl (by decide) _ _ _ rfl (World.ownsRow_made w #[] 0 (Nat.le_refl _) (Nat.zero_le _) (by simp)) ⟨b, 0, none⟩ 3 3 news rfl ?qc1 ?qc2 ?qc3 ?qc4 ?qc5 ?qc6 ?_)
 case qc1 => exact HL.out
 case qc2 =>
  intro j u hj
  rw [Addr.add_lit]
  exact Lib.cell?_alloc_some _ (A.out j u hj)
 case qc3 => exact H1.out
 case qc4 => decide
 case qc5 => exact HB.out
 case qc6 => simp
 intro v' w1 hown hgrow hnil
 have K := hide hown
 have KG := hide hgrow
 have KN := hide hnil
 clear hown hgrow hnil
 go_wp2
 go_ret
 obtain ⟨_, ho⟩ := K.out
 rcases ho with ⟨_, h0⟩ | ⟨g, cap, cur, rfl, hg, hh, h1, h2, h3, h4⟩
 · cases h0
 · refine ⟨g, cap, cur.toList, rfl, Chg.of_below (((Below.refl _ w).alloc (Nat.le_refl _) _).grown KG.out (by simp) (by intro k hk; simp [Value.ownBlock] at hk; omega)), hg, h1, h2, ?_, by simpa using h4⟩
   unfold Blk
   rw [hh]
end Go.Proofs.YtihgijhjhmjolaaGreatDoor.Xi
