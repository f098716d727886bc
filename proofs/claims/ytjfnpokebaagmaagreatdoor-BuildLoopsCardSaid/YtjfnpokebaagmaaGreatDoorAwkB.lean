/- The page's example, and who is nobody. -/
import Derived.Test.YtjfnpokebaagmaaGreatDoorAwkA
namespace Go.Proofs.YtjfnpokebaagmaaGreatDoor
open Go.RowKit Go.Deep Go.Maps
set_option linter.unusedVariables false
attribute [local go_sem] Oper.semAt_some
def bmA : BM := ⟨[⟨33, 1, 0, 0, 1⟩, ⟨32, 1, 1, 0, 34464⟩], [], []⟩
theorem setM_A : setM ⟨[], [], []⟩ 1 100000 = (0, bmA) := by kernel_rfl
theorem finM_A : finM bmA = ([2216689665, 2149680800], [], 0) := by kernel_rfl
theorem Fine_A : Fine bmA := ⟨by simp [bmA], by simp [bmA]⟩
set_option maxRecDepth 100000 in
set_option maxHeartbeats 2000000 in
theorem awake21_calls {w : World} (hE : ErT w) : Calls Tryz.prog 5 #[] w fun e w' => e = .returned (.bool true) ∧ Chg w w' [] := by
 have HE := hide hE
 have heg : 0 < w.heap.size := World.block_lt_of_cell? _ _ hE
 have HEG := hide heg
 have hnew := new_calls w
 clear hE heg
 go_enter Tryz.func5, Tryz.ntmps5
 go_wp2_with fail
 go_at_call 6
 refine hnew.mono ?_
 rintro e w1 ⟨b, F, rfl, hc1, hp1, hF⟩
 have hset := set_calls hp1 1 100000 (by decide) (by decide) (by decide)
 rw [setM_A] at hset
 have HC1 := hide hc1
 have HF := hide hF
 clear hc1 hp1 hF
 go_wp2_with fail
 go_at_call 12
 refine hset.mono ?_
 rintro e w2 ⟨rfl, hc2, F2, hs2, hp2⟩
 have hc02 : Chg w w2 [] := HC1.out.trans hc2 (fun k hk => .inr (HF.out k hk))
 have hE2 : ErT w2 := HE.out.chg hc02 (by simp)
 have hfin := finish_calls hp2 Fine_A (by decide) (by decide) hE2
 rw [finM_A] at hfin
 have HC2 := hide hc02
 have HP2 := hide hp2
 clear hc2 hs2 hp2 hc02 hE2 hset
 unfold FinP strV at hfin
 go_wp2_with fail
 go_at_call 8
 refine hfin.mono ?_
 rintro e w3 ⟨hc3, v, rfl, hsl⟩
 have HC3 := hide (HC2.out.trans hc3 (by simp))
 have HP3 := hide (HP2.out.chg hc3 (by simp))
 have HSL := hide hsl
 have hlen3 : Hid (∃ A c, v = .slice A 2 c) := hide (by
  obtain ⟨A, c, h1, _⟩ := hsl
  exact ⟨A, c, h1⟩)
 obtain ⟨A3, c3, rfl⟩ := hlen3.out
 clear hc3 hsl hfin hlen3
 have hodd : Blk ((w3.alloc (.cells #[.pointer none, .slice none 0 0] 59)).alloc (.cells #[.bool false] 4)) w3.heap.size 59 [.pointer none, .slice none 0 0] := (Blk.new w3 59 [.pointer none, .slice none 0 0]).alloc _
 have hno : Dead ((w3.alloc (.cells #[.pointer none, .slice none 0 0] 59)).alloc (.cells #[.bool false] 4)) (.pointer none) := .inl rfl
 have hod : Dead ((w3.alloc (.cells #[.pointer none, .slice none 0 0] 59)).alloc (.cells #[.bool false] 4)) (.pointer (some ⟨w3.heap.size, 0, none⟩)) := .inr ⟨_, rfl, hodd⟩
 have hl1 := fun f => dloop_calls hno 1 2 3 (.string ⟨#[97]⟩) f
 have hl2 := fun f => dloop_calls hod 1 2 3 (.string ⟨#[97]⟩) f
 have hf1 := dfinish_calls hno
 have hf2 := dfinish_calls hod
 have hi1 := dins_calls hno ⟨42, 0, 0, 0, 0⟩
 have HOD := hide hod
 unfold insVal at hi1
 clear hodd hno hod
 go_wp2_with fail
 go_at_call 13
 refine (hl1 _).mono ?_
 rintro e w4 ⟨rfl, rfl⟩
 go_wp2_with fail
 go_at_call 13
 refine (hl2 _).mono ?_
 rintro e w4 ⟨rfl, rfl⟩
 clear hl1 hl2
 go_wp2_with fail
 go_at_call 8
 refine hf1.mono ?_
 rintro e w4 ⟨rfl, rfl⟩
 go_wp2_with fail
 go_at_call 8
 refine hf2.mono ?_
 rintro e w4 ⟨rfl, rfl⟩
 clear hf1 hf2
 go_wp2_with fail
 go_at_call 16
 refine hi1.mono ?_
 rintro e w5 ⟨rfl, hc5⟩
 have HC5 : Hid (Chg w3 w5 []) := hide ((((Chg.refl w3 []).alloc _).alloc _).trans hc5 (by simp))
 have hod5 := HOD.out.chg hc5
 have hl5 := dlabel_calls hod5 (.string ⟨#[97]⟩)
 have hg5 := dgo_calls (w := w5) (.inl rfl) 39 0 0 (.string ⟨#[97]⟩)
 have HOD5 := hide hod5
 clear hc5 hi1 hod5
 go_wp2_with fail
 go_at_call 23
 refine hl5.mono ?_
 rintro e w6 ⟨rfl, rfl⟩
 go_wp2_with fail
 go_at_call 24
 refine hg5.mono ?_
 rintro e w6 ⟨rfl, hc6⟩
 have hod6 := HOD5.out.chg hc6
 have HC6 : Hid (Chg w3 w6 []) := hide (HC5.out.trans hc6 (by simp))
 have hs6 := dset_calls hod6 1 1
 have hn6 := dlen_calls (w := w6) (v := .pointer none) (.inl rfl)
 have hm6 := dlen_calls hod6
 clear hc6 hg5 hl5 hod6
 go_wp2_with fail
 go_at_call 12
 refine hs6.mono ?_
 rintro e w7 ⟨rfl, rfl⟩
 go_wp2_with fail
 go_at_call 11
 refine hn6.mono ?_
 rintro e w7 ⟨rfl, rfl⟩
 go_wp2_with fail
 go_at_call 11
 refine hm6.mono ?_
 rintro e w7 ⟨rfl, rfl⟩
 clear hs6 hn6 hm6
 have hb8 : Sl (w6.alloc (.cells #[.int .u32 2216689665, .int .u32 2149680800] 62)) (.slice (some ⟨w6.heap.size, 0, none⟩) 2 2) (u32s [2216689665, 2149680800]) := Sl.blk' (Blk.new w6 62 (u32s [2216689665, 2149680800])) rfl (Nat.le_refl _)
 have hcc : Chg w3 (w6.alloc (.cells #[.int .u32 2216689665, .int .u32 2149680800] 62)) [] := HC6.out.alloc _
 have hw8 := words_calls [2216689665, 2149680800] (by decide) (HSL.out.keep hcc) hb8
 have HCC := hide hcc
 clear hb8 hcc
 go_wp2_with fail
 go_at_call 10
 refine hw8.mono ?_
 rintro e w9 ⟨rfl, hc9⟩
 have hc39 : Chg w3 w9 [] := HCC.out.trans hc9 (by simp)
 have hn9 := len_calls (HP3.out.chg hc39 (by simp))
 have HC9 := hide hc39
 clear hc9 hw8 hc39
 unfold bmA at hn9
 go_wp2_with fail
 go_at_call 11
 refine hn9.mono ?_
 rintro e w10 ⟨rfl, rfl⟩
 go_wp2
 go_ret
 exact ⟨rfl, HC3.out.trans HC9.out (by simp)⟩
end Go.Proofs.YtjfnpokebaagmaaGreatDoor
