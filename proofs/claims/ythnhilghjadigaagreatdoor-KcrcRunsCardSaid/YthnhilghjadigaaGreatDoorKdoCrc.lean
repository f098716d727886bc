/- kcrc.Do, the document's words of bytes, awake. -/
import Derived.Test.YthnhilghjadigaaGreatDoorKC18
import Derived.Test.YthnhilghjadigaaGreatDoorKrunC9
import Derived.Test.YthnhilghjadigaaGreatDoorKC9
import Derived.Lib.SlBytesConst
import Derived.Laws.IdiomStrings
namespace Go.Proofs.YthnhilghjadigaaGreatDoor
open Go Go.RowKit Go.Deep Go.Maps Go.Proofs.YthnhilghjadigaaGreatDoor.Ab Go.Proofs.YthnhilghjadigaaGreatDoor.Xi
set_option linter.unusedVariables false
attribute [local go_sem] Oper.semAt_some
def bW (l : List Nat) : Nat → Wd := fun i => kW ((l.getD i 0 : Nat) : Int)
theorem mapB_bW (l : List Nat) : mapB (bW l) l.length = l.map fun n : Nat => kW (n : Int) := by
 unfold mapB
 apply List.ext_getElem (by simp)
 intro i h1 h2
 simp only [List.getElem_map, List.getElem_range]
 unfold bW
 rw [List.getD_eq_getElem?_getD, List.getElem?_eq_getElem (by simpa using h2), Option.getD_some]
theorem crcW_bytes (l : List Nat) (h : ∀ x ∈ l, x < 256) : (crcW (mapB (bW l) l.length)).v = ((sumN 65535 l : Nat) : Int) := by
 rw [mapB_bW]
 unfold crcW
 have h1 := crcW_kW l 65535 (by omega) h
 have e : ((65535 : Nat) : Int) = 65535 := by omega
 rw [e] at h1
 rw [h1]
 exact kW_nat (by have := sumN_lt (c := 65535) (by omega) l; omega)
theorem kWv_map : ∀ (l : List Nat), (∀ x ∈ l, x < 256) → (l.map fun n : Nat => kW (n : Int)).map (·.v) = l.map fun n : Nat => (n : Int)
 | [], _ => rfl
 | x :: l, h => by
  have hx := h x (by simp)
  have ih := kWv_map l (fun y hy => h y (by simp [hy]))
  simp only [List.map_cons]
  rw [kW_nat (Nat.lt_trans hx (by decide)), ih]
theorem mapB_v (l : List Nat) (h : ∀ x ∈ l, x < 256) : (mapB (bW l) l.length).map (·.v) = l.map fun n : Nat => (n : Int) := by
 rw [mapB_bW]
 exact kWv_map l h
theorem wayC (l : List Nat) (h : ∀ x ∈ l, x < 256) (h1 : 1 ≤ l.length) (h2 : l.length ≤ 64) : Way (wordsOf (imgC l.length).code (imgC l.length).nc) (imgC l.length).data (List.range l.length) [(imgC l.length).out] (l.map fun n : Nat => (n : Int)) [((sumN 65535 l : Nat) : Int)] ((imgC l.length).marks l.length) := by
 have := (okC l.length h1 h2).way (bW l)
 rw [mapB_v l h, crcW_bytes l h] at this
 exact this
theorem row_open2 {w : World} {base e n : Nat} {v : Value} {xs : List Value} (h : w.ownsRow base e 1 v n xs) (hp : 0 < n) : ∃ g cap, v = .slice (some ⟨g, 0, none⟩) n cap ∧ base ≤ g ∧ g < w.heap.size ∧ n ≤ cap ∧ cap ≤ maxLen ∧ ∀ i u, xs[i]? = some u → w.cell? ⟨g, i, none⟩ = some u := by
 rcases h.2 with ⟨rfl, h0⟩ | ⟨g, cap, cur, rfl, h1, h2, h3, h4, _⟩
 · omega
 · refine ⟨g, cap, rfl, h1, lt_of_heap h2, h3, h4, fun i u hu => ?_⟩
   have := h.cells (g := g) rfl i u hu
   rwa [add_plain, Nat.zero_add] at this
theorem make_i32 (n : Nat) (w : World) (hl : n ≤ 500000) : (Instr.makeSlice 25 (.int .i64 n) (.int .i64 n)).run Tryz.prog w = .ok (.slice (some ⟨w.heap.size, 0, none⟩) n n) (w.alloc (.cells (zeros (.int .i32 0) n).toArray 21)) := by
 obtain ⟨i0, hi, hz0, hz1, hz2⟩ := info_parts info_i32
 have h := run_makeSlice (P := Tryz.prog) w 25 21 i0 (.int .i32 0) Tryz.underlying25 hi hz0 .i64 .i64 n n (by omega) (by omega) (by rw [hz1]; omega) (by rw [hz2]; omega) (by omega)
 rw [h, hz1, ← madeCells_zeros]
 simp [Value.cells]
def fillC (l : List Nat) (j : Nat) : List Value := (i32s ((l.take j).map fun n : Nat => (n : Int))) ++ zeros (.int .i32 0) (l.length - j)
theorem fillC_len (l : List Nat) (j : Nat) (h : j ≤ l.length) : (fillC l j).length = l.length := by simp [fillC, i32s, zeros]; omega
theorem fillC_set (l : List Nat) (j x : Nat) (h : l[j]? = some x) : (fillC l j).set j (.int .i32 (x : Int)) = fillC l (j + 1) := by
 obtain ⟨hj, hx⟩ := List.getElem?_eq_some_iff.1 h
 unfold fillC
 have hl : (i32s ((l.take j).map fun n : Nat => (n : Int))).length = j := by simp [i32s]; omega
 rw [List.set_append_right _ _ (by omega), hl, Nat.sub_self, List.take_add_one, h]
 obtain ⟨m, hm⟩ : ∃ m, l.length - j = m + 1 := ⟨l.length - j - 1, by omega⟩
 rw [hm, show l.length - (j + 1) = m by omega]
 show _ ++ (Value.int .i32 0 :: zeros _ m).set 0 _ = _
 simp [i32s]
theorem fillC_all (l : List Nat) : fillC l l.length = i32s (l.map fun n : Nat => (n : Int)) := by simp [fillC, zeros]
set_option maxRecDepth 100000 in
set_option maxHeartbeats 2000000 in
theorem kcrc_do {w : World} (hg : Glo w) {v : Value} {l : List Nat} (h : Sl w v (u8c l)) (hb : ∀ x ∈ l, x < 256) (h1 : 1 ≤ l.length) (h2 : l.length ≤ 64) :
 Calls Tryz.prog 7 #[v] w fun e w' => e = .returned (.tuple #[.int .i32 ((sumN 65535 l : Nat) : Int), .int .i64 (sumC ((imgC l.length).marks l.length)), .int .i64 0]) ∧ Chg w w' [] := by
 obtain ⟨A, c, rfl, hx⟩ := sl_open h
 have hi := kcrc_image w hg l.length h1 h2
 have hmk := fun w : World => make_i32 l.length w (by omega)
 have HWY := hide (wayC l hb h1 h2)
 rw [u8c_length]
 generalize imgC l.length = i at *
 have HX := hide hx
 have HB := hide hb
 have HG := hide hg
 have HL := hide (show 1 ≤ l.length ∧ l.length ≤ 64 from ⟨h1, h2⟩)
 clear h hx hb hg h1 h2
 go_enter Tryz.func7, Tryz.ntmps7
 go_wp2_with fail
 go_at_call 6
 refine hi.mono ?_
 rintro e w1 ⟨vi, rfl, hc1, him⟩
 obtain ⟨vc, vd, vs, vi, vo, rfl, g1, g2, g3, g4, g5⟩ := id him
 obtain ⟨a1, c1, rfl, _⟩ := id g1
 obtain ⟨a2, c2, rfl, _⟩ := id g2
 obtain ⟨a3, c3, rfl, _⟩ := id g3
 obtain ⟨a4, c4, rfl, _⟩ := id g4
 obtain ⟨a5, c5, rfl, _⟩ := id g5
 generalize (u32s ((wordsOf i.code i.nc).map fun w : Nat => (w : Int))).length = n1 at *
 generalize (i32s i.data).length = n2 at *
 generalize (bools i.sec).length = n3 at *
 generalize (ints (List.range l.length)).length = n4 at *
 generalize (ints [i.out]).length = n5 at *
 have HC1 := hide hc1
 have HIM := hide him
 clear hi hc1 him g1 g2 g3 g4 g5
 have hz1 : (w1.alloc (.cells #[.slice a1 n1 c1, .slice a2 n2 c2, .slice a3 n3 c3, .slice a4 n4 c4, .slice a5 n5 c5] 29)).heap.size = w1.heap.size + 1 := size_alloc _ _
 have hbi := (Blk.new w1 29 [.slice a1 n1 c1, .slice a2 n2 c2, .slice a3 n3 c3, .slice a4 n4 c4, .slice a5 n5 c5]).alloc (.cells (zeros (.int .i32 0) l.length).toArray 21)
 have hbl := Blk.new (w1.alloc (.cells #[.slice a1 n1 c1, .slice a2 n2 c2, .slice a3 n3 c3, .slice a4 n4 c4, .slice a5 n5 c5] 29)) 21 (zeros (.int .i32 0) l.length)
 rw [hz1] at hbl
 have hf0 : fillC l 0 = zeros (.int .i32 0) l.length := by simp [fillC, i32s]
 have hcA : Chg w1 ((w1.alloc (.cells #[.slice a1 n1 c1, .slice a2 n2 c2, .slice a3 n3 c3, .slice a4 n4 c4, .slice a5 n5 c5] 29)).alloc (.cells (zeros (.int .i32 0) l.length).toArray 21)) [] := ((Chg.refl w1 []).alloc _).alloc _
 have hm1 := make_i32 l.length (w1.alloc (.cells #[.slice a1 n1 c1, .slice a2 n2 c2, .slice a3 n3 c3, .slice a4 n4 c4, .slice a5 n5 c5] 29)) (by have := HL.out; omega)
 rw [hz1] at hm1
 rw [← hf0] at hbl hbi hcA hm1
 have HBI := hide hbi
 have HBL := hide hbl
 have HCA := hide hcA
 clear hbi hbl hcA hf0 hmk
 go_wp2_with fail
 clear hm1
 clear hz1
 generalize ((w1.alloc (.cells #[.slice a1 n1 c1, .slice a2 n2 c2, .slice a3 n3 c3, .slice a4 n4 c4, .slice a5 n5 c5] 29)).alloc (.cells (fillC l 0).toArray 21)) = W2 at *
 generalize hM : w1.heap.size = M at *
 have HMM := hide hM
 go_loopw [8, 25] (fun _ i wr => ∃ j : Nat, j ≤ l.length ∧ i = .int .i64 j ∧ Hid (Chg w1 wr []) ∧ Hid (Blk wr (M + 1) 21 (fillC l j)) ∧ Hid (Blk wr M 29 [.slice a1 n1 c1, .slice a2 n2 c2, .slice a3 n3 c3, .slice a4 n4 c4, .slice a5 n5 c5])) (fun _ i _ => l.length - (intOf i).toNat)
 case atStart => exact ⟨0, Nat.zero_le _, rfl, HCA, HBL, HBI⟩
 case round =>
  clear HCA HBL HBI
  obtain ⟨j, hj, rfl, HC, HK, HI⟩ := hrel
  by_cases hlt : j < l.length
  · obtain ⟨x, hjx⟩ : ∃ x, l[j]? = some x := ⟨l[j], by simp [hlt]⟩
    obtain ⟨b, o, rfl, hcx, hbb⟩ := HX.out j _ (u8c_at hjx)
    have c1 := (HC1.out.trans HC.out (by simp)).cell hcx (by simp)
    have hx256 := HB.out x (List.mem_of_getElem? hjx)
    have hwr : IntKind.i32.wrap (x : Int) = (x : Int) := by rw [IntKind.wrap_i32]; omega
    obtain ⟨y, hy⟩ : ∃ y, (fillC l j)[j]? = some y := ⟨(fillC l j)[j]'(by rw [fillC_len l j hj]; exact hlt), by simp⟩
    have z := HK.out.cell' hy
    have f := HK.out.frozen j
    have hbl := HK.out.lt
    have hset := fillC_set l j x hjx
    have HNX := hide (show Blk (wr.setCell ⟨M + 1, j, none⟩ (.int .i32 (x : Int))) (M + 1) 21 (fillC l (j + 1)) from hset ▸ HK.out.set_ j (.int .i32 (x : Int)))
    have hcS : Chg wr (wr.setCell ⟨M + 1, j, none⟩ (.int .i32 (x : Int))) [M + 1] := (Chg.refl wr [M + 1]).setCell _ _ (.inl (List.mem_singleton.2 rfl))
    have HCS := hide (show Chg w1 (wr.setCell ⟨M + 1, j, none⟩ (.int .i32 (x : Int))) [] from HC.out.trans hcS (fun k hk => .inr (by have := HMM.out; simp at hk; omega)))
    have HIS := hide (HI.out.chg hcS (by simp))
    clear hcx hjx hy hset hcS
    have hL64 := HL.out.2
    go_wp2
    go_roundw
    case rel => exact ⟨j + 1, by omega, by go_num, HCS, HNX, HIS⟩
    case measure => simp [intOf]; omega
  · have hjl : j = l.length := by omega
    subst hjl
    rw [fillC_all] at HK
    have hcw : Chg w wr [] := HC1.out.trans HC.out (by simp)
    have hin : Sl wr (.slice (some ⟨M + 1, 0, none⟩) l.length l.length) (i32s (l.map fun n : Nat => (n : Int))) := by
     have := Sl.blk' (n := l.length) (c := l.length) HK.out (by simp [i32s]) (Nat.le_refl _)
     exact this
    have hrn := erun_calls (HG.out.chg hcw (by simp)) (HIM.out.keep HC.out) hin HWY.out
    have HCW := hide hcw
    have y0 := HI.out.cell' (i := 0) rfl
    have y1 := HI.out.cell' (i := 1) rfl
    have y2 := HI.out.cell' (i := 2) rfl
    have y3 := HI.out.cell' (i := 3) rfl
    have y4 := HI.out.cell' (i := 4) rfl
    clear hcw hin
    go_wp2_with fail
    go_at_call 21
    refine hrn.mono ?_
    rintro e w5 ⟨u, rfl, hc5, hu⟩
    obtain ⟨g, c, rfl, hNg, hgl, h8c, hcm, hcells⟩ := row_open2 hu (by simp)
    have q0 := hcells 0 _ rfl
    have HC5 := hide (HCW.out.trans hc5 (by simp))
    clear hrn hc5 hu hcells hNg h8c hcm
    go_wp2
    refine bodyPost_ret (results_tmp3 rfl _ _ _) rfl ?_
    exact ⟨rfl, HC5.out⟩
set_option maxRecDepth 100000 in
theorem kcrc_do_no {w : World} {v : Value} {l : List Nat} (h : Sl w v (u8c l)) (hn : l.length < 1 ∨ 64 < l.length) :
 Calls Tryz.prog 7 #[v] w fun e w' => e = .returned (.tuple #[.int .i32 0, .int .i64 0, .int .i64 2]) ∧ Chg w w' [] := by
 obtain ⟨A, c, rfl, hx⟩ := sl_open h
 have hi := kcrc_image_no w l.length (by omega)
 rw [u8c_length]
 clear h hx
 go_enter Tryz.func7, Tryz.ntmps7
 go_wp2_with fail
 go_at_call 6
 refine hi.mono ?_
 rintro e w1 ⟨rfl, hc1⟩
 have HC := hide (hc1.alloc (.cells #[.slice none 0 0, .slice none 0 0, .slice none 0 0, .slice none 0 0, .slice none 0 0] 29))
 clear hi hc1
 go_wp2
 refine bodyPost_ret (results_tmp3 rfl _ _ _) rfl ?_
 exact ⟨rfl, HC.out⟩
set_option maxRecDepth 100000 in
theorem sum9 : sumN 65535 [49, 50, 51, 52, 53, 54, 55, 56, 57] = 10673 ∧ decide (0 < sumC ((imgC 9).marks 9)) = true := by
 refine ⟨?_, ?_⟩ <;> kernel_rfl
set_option maxRecDepth 100000 in
set_option maxHeartbeats 1000000 in
theorem awake30_calls {w : World} (hg : Glo w) : Calls Tryz.prog 5 #[] w fun e w' => e = .returned (.bool true) ∧ Chg w w' [] := by
 have hs : 0 < sumC ((imgC 9).marks 9) := of_decide_eq_true sum9.2
 have hw1 : Chg w (w.alloc (.cells #[.int .u8 49, .int .u8 50, .int .u8 51, .int .u8 52, .int .u8 53, .int .u8 54, .int .u8 55, .int .u8 56, .int .u8 57] 5 (9, 10))) [] := (Chg.refl w []).alloc _
 have hsl : Sl (w.alloc (.cells #[.int .u8 49, .int .u8 50, .int .u8 51, .int .u8 52, .int .u8 53, .int .u8 54, .int .u8 55, .int .u8 56, .int .u8 57] 5 (9, 10))) (.slice (some ⟨w.heap.size, 0, none⟩) 9 9) (u8c [49, 50, 51, 52, 53, 54, 55, 56, 57]) :=
  ⟨_, 9, rfl, Nat.le_refl _, fun _ => ⟨_, 0, rfl, fun k hk => by rw [Nat.zero_add, World.cell?_alloc_mark]; simp [u8c]⟩⟩
 have hd := kcrc_do (hg.chg hw1 (by simp)) hsl (by decide) (by decide) (by decide)
 have kc := fun (w : World) (C : Array Value) (n c : Nat) => Lib.run_convert_bytes_const (P := Tryz.prog) w 22 5 C n c Tryz.underlying22 Tryz.underlying5
 rw [show ([49, 50, 51, 52, 53, 54, 55, 56, 57] : List Nat).length = 9 from rfl, sum9.1] at hd
 generalize sumC ((imgC 9).marks 9) = s at *
 have q3 : decide (0 < s) = true := decide_eq_true hs
 have HW1 := hide hw1
 clear hg hs hw1 hsl
 go_enter Tryz.func5, Tryz.ntmps5
 go_wp2_with fail
 go_at_call 7
 refine Calls.mono hd ?_
 rintro e w1 ⟨rfl, hc⟩
 have HC := hide (HW1.out.trans hc (by simp))
 clear hc hd
 go_wp2
 go_ret
 exact ⟨rfl, HC.out⟩
end Go.Proofs.YthnhilghjadigaaGreatDoor
