/- BuildLoops: what is inside of its loops. -/
import Derived.Test.YtjfnpokebaagmaaGreatDoorLoopE
namespace Go.Proofs.YtjfnpokebaagmaaGreatDoor
open Go.RowKit Go.Deep Go.Maps
set_option linter.unusedVariables false
attribute [local go_sem] Oper.semAt_some
theorem Sub.trans {F F1 F2 : List Nat} {w w1 : World} (h : Sub F1 F w) (h2 : Sub F2 F1 w1) (hs : w.heap.size ≤ w1.heap.size) : Sub F2 F w := fun k hk => by
 rcases h2 k hk with h' | h'
 · exact h k h'
 · exact .inr (by omega)
theorem Sub.chg {F F1 : List Nat} {w w1 w2 : World} (h : Sub F1 F w) (hc : Chg w w1 F) (h2 : Chg w1 w2 F1) : Chg w w2 F := hc.trans h2 h
def On (b : Nat) (bm : BM) (F : List Nat) (w w' : World) : Prop := Chg w w' F ∧ ∃ F', Sub F' F w ∧ PB w' b bm F'
theorem On.trans {b : Nat} {bm bm2 : BM} {F : List Nat} {w w1 w2 : World} (h : On b bm F w w1) (h2 : ∀ F1, Sub F1 F w → PB w1 b bm F1 → On b bm2 F1 w1 w2) : On b bm2 F w w2 := by
 obtain ⟨hc, F1, hs, hp⟩ := h
 obtain ⟨hc2, F2, hs2, hp2⟩ := h2 F1 hs hp
 exact ⟨hs.chg hc hc2, F2, hs.trans hs2 hc.size, hp2⟩
theorem On.ins {w : World} {b : Nat} {bm : BM} {F : List Nat} (h : PB w b bm F) (i : Ins5) (hl : bm.code.length ≤ 1000000) (h0 : chkI i = 0) :
 Calls Tryz.prog 16 #[.pointer (some ⟨b, 0, none⟩), insVal i] w fun e w' => e = .returned (.int .i64 0) ∧ On b { bm with code := bm.code ++ [i] } F w w' :=
 (ins_ok_calls h i hl h0).mono fun e w' ⟨he, hc, F', hs, hp⟩ => ⟨he, hc, F', hs, hp⟩
def inner3 : List Ins5 := [⟨31, 6, 6, 0, 1⟩, ⟨1, 7, 7, 1, 0⟩, ⟨1, 8, 8, 3, 0⟩]
def Held (w : World) (b k7 : Nat) : Prop := Blk w k7 29 [.pointer (some ⟨b, 0, none⟩)]
theorem far_of {F F1 : List Nat} {w : World} {k : Nat} (hs : Sub F1 F w) (hn : k ∉ F) (hk : k < w.heap.size) : k ∉ F1 := fun hm => by
 rcases hs k hm with h | h
 · exact hn h
 · omega
set_option maxRecDepth 100000 in
set_option maxHeartbeats 1000000 in
theorem inner_calls {w : World} {b k7 : Nat} {bm : BM} {F : List Nat} (h : PB w b bm F) (hk : Held w b k7) (hn : k7 ∉ F) (hl : bm.code.length ≤ 1000) :
 Calls Tryz.prog 15 #[.pointer (some ⟨k7, 0, none⟩)] w fun e w' => (∃ v, e = .returned v) ∧ On b { bm with code := bm.code ++ inner3 } F w w' := by
 have HK := hide hk
 have hlt : k7 < w.heap.size := hk.lt
 have c0 := hk.cell' (i := 0) rfl
 have hi1 := On.ins h ⟨31, 6, 6, 0, 1⟩ (by omega) (by decide)
 have HN := hide hn
 have HLT := hide hlt
 clear h hk hn hlt
 unfold insVal at hi1
 go_enter Tryz.func15, Tryz.ntmps15
 go_wp2_with fail
 go_at_call 16
 refine hi1.mono ?_
 rintro e w1 ⟨rfl, hc1, F1, hs1, hp1⟩
 have k1 := HK.out.chg hc1 HN.out
 have c1 := k1.cell' (i := 0) rfl
 have hi2 := On.ins hp1 ⟨1, 7, 7, 1, 0⟩ (by simp; omega) (by decide)
 have n1 := far_of hs1 HN.out HLT.out
 have HC1 := hide hc1
 have HS1 := hide hs1
 have HK1 := hide k1
 have HN1 := hide n1
 clear hc1 hs1 hp1 k1 n1 hi1 c0
 unfold insVal at hi2
 go_wp2_with fail
 go_at_call 16
 refine hi2.mono ?_
 rintro e w2 ⟨rfl, hc2, F2, hs2, hp2⟩
 have k2 := HK1.out.chg hc2 HN1.out
 have c2 := k2.cell' (i := 0) rfl
 have hi3 := On.ins hp2 ⟨1, 8, 8, 3, 0⟩ (by simp; omega) (by decide)
 have HC2 := hide (HS1.out.chg HC1.out hc2)
 have HS2 := hide (HS1.out.trans hs2 HC1.out.size)
 clear hc2 hp2 hs2 k2 hi2 c1
 unfold insVal at hi3
 go_wp2_with fail
 go_at_call 16
 refine hi3.mono ?_
 rintro e w3 ⟨rfl, hc3, F3, hs3, hp3⟩
 have HC3 := hide (HS2.out.chg HC2.out hc3)
 have HS3 := hide (HS2.out.trans hs3 HC2.out.size)
 have HP3 := hide hp3
 clear hc3 hs3 hp3 hi3 c2
 go_wp2
 refine bodyPost_end (results_none rfl _ _ _) rfl ?_
 refine ⟨⟨_, rfl⟩, HC3.out, F3, HS3.out, ?_⟩
 have := HP3.out
 simpa [inner3] using this
def LQ (b : Nat) (bm : BM) (F : List Nat) (w : World) (w2 : World) (bm2 : BM) (F2 : List Nat) : Prop := bm2 = bm ∧ Chg w w2 F ∧ Sub F2 F w
theorem inner_do {w : World} {b k7 : Nat} {bm B : BM} {F : List Nat} {c l n : Int} {s : Nm} (hk : Held w b k7) (hn : k7 ∉ F) (hq : openM bm c l n s = (0, B)) (hl : B.code.length ≤ 1000) (hu : B.uses.length ≤ 1000) :
 DoP 15 #[.pointer (some ⟨k7, 0, none⟩)] (LQ b { B with code := B.code ++ inner3 } F w) (openM bm c l n s) b F w := by
 rw [hq]
 intro _ w1 F1 hc1 hs1 hp1
 refine (inner_calls hp1 (hk.chg hc1 hn) (far_of hs1 hn hk.lt) hl).mono ?_
 rintro e w2 ⟨he, hc2, F2, hs2, hp2⟩
 exact ⟨he, _, F2, hp2, by simp [inner3]; omega, by simp; omega, rfl, hs1.chg hc1 hc2, hs1.trans hs2 hc1.size⟩
theorem run_inner (caps : Array Value) (W : World) : (callFunc 15 caps).run Tryz.prog W = .ok (.enter 15 caps) W := by kernel_rfl
theorem run_outer (caps : Array Value) (W : World) : (callFunc 14 caps).run Tryz.prog W = .ok (.enter 14 caps) W := by kernel_rfl
set_option maxRecDepth 100000 in
set_option maxHeartbeats 1000000 in
theorem outer_calls {w : World} {b k7 k9 : Nat} {bm B : BM} {F : List Nat} {y : Int} (h : PB w b bm F) (hk : Held w b k7) (hn : k7 ∉ F) (hy : Blk w k9 3 [.int .i64 y]) (hq : openM bm 3 4 y nInner = (0, B)) (hl : bm.code.length ≤ 900) (hd : bm.defs.length ≤ 900) (hl2 : B.code.length ≤ 1000) (hu : B.uses.length ≤ 1000) :
 Calls Tryz.prog 14 #[.pointer (some ⟨k7, 0, none⟩), .pointer (some ⟨k9, 0, none⟩)] w fun e w' => (∃ v, e = .returned v) ∧ On b (closeM { B with code := B.code ++ inner3 } 3 4 nInner) F w w' := by
 have hlo := loop_calls h 3 4 y nInner 15 #[.pointer (some ⟨k7, 0, none⟩)] _ (by decide) (by omega) (by omega) (run_inner _) (inner_do hk hn hq hl2 hu)
 have c0 := hk.cell' (i := 0) rfl
 have c1 := hy.cell' (i := 0) rfl
 have HQ := hide hq
 clear h hk hn hy hq
 unfold strV nInner at hlo
 go_enter Tryz.func14, Tryz.ntmps14
 go_wp2_with fail
 go_at_call 13
 refine hlo.mono ?_
 intro e w1 hL
 have h1 := hL.1
 change (openM bm 3 4 y nInner).1 = 0 → _ at h1
 rw [HQ.out] at h1
 obtain ⟨w2, bm2, F2, ⟨rfl, hc2, hs2⟩, rfl, hc3, F3, hs3, hp3⟩ := h1 rfl
 have HC := hide (hs2.chg hc2 hc3)
 have HS := hide (hs2.trans hs3 hc2.size)
 have HP := hide hp3
 clear hL h1 hc2 hs2 hc3 hs3 hp3 hlo
 go_wp2
 refine bodyPost_end (results_none rfl _ _ _) rfl ?_
 exact ⟨⟨_, rfl⟩, HC.out, F3, HS.out, HP.out⟩
theorem outer_do {w : World} {b k7 k9 : Nat} {bm B B2 : BM} {F : List Nat} {y x : Int} (hk : Held w b k7) (hn : k7 ∉ F) (hy : Blk w k9 3 [.int .i64 y]) (hn9 : k9 ∉ F) (hq : openM bm 1 2 x nOuter = (0, B)) (hq2 : openM B 3 4 y nInner = (0, B2)) (hl : B.code.length ≤ 900) (hd : B.defs.length ≤ 900) (hl2 : B2.code.length ≤ 1000) (hu : B2.uses.length ≤ 1000) :
 DoP 14 #[.pointer (some ⟨k7, 0, none⟩), .pointer (some ⟨k9, 0, none⟩)] (LQ b (closeM { B2 with code := B2.code ++ inner3 } 3 4 nInner) F w) (openM bm 1 2 x nOuter) b F w := by
 rw [hq]
 intro _ w1 F1 hc1 hs1 hp1
 refine (outer_calls hp1 (hk.chg hc1 hn) (far_of hs1 hn hk.lt) (hy.chg hc1 hn9) hq2 hl hd hl2 hu).mono ?_
 rintro e w2 ⟨he, hc2, F2, hs2, hp2⟩
 exact ⟨he, _, F2, hp2, by simp [closeM, inner3]; omega, by simp [closeM]; omega, rfl, hs1.chg hc1 hc2, hs1.trans hs2 hc1.size⟩
end Go.Proofs.YtjfnpokebaagmaaGreatDoor
