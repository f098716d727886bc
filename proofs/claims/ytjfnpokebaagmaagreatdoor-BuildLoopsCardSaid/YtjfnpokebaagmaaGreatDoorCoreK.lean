/- The core: a new one, of words that decode. -/
import Derived.Test.YtjfnpokebaagmaaGreatDoorCoreJ
import Derived.Test.YtjfnpokebaagmaaGreatDoorBL2
namespace Go.Proofs.YtjfnpokebaagmaaGreatDoor
open Go.RowKit Go.Deep Go.Maps
set_option linter.unusedVariables false
attribute [local go_sem] Oper.semAt_some
theorem info_row6 : (Tryz.prog.info? 90).map (fun i => (i.zero, i.size, i.bytes)) = some (some (.agg #[.int .i64 0, .int .i64 0, .int .i64 0, .int .i64 0, .int .i64 0, .bool false]), 6, 48) := by kernel_rfl
theorem six_new {w : World} {a b c d f g : Value} {t : TypeId} : ∀ j u, [a, b, c, d, f, g][j]? = some u → ((w.alloc (.cells #[a, b, c, d, f, g] t)).drew).cell? ((⟨w.heap.size, 0, none⟩ : Addr).add j) = some u := by
 intro j u hj
 match j, hj with
 | 0, hj => simp at hj; subst hj; simp [Addr.add]
 | 1, hj => simp at hj; subst hj; simp [Addr.add]
 | 2, hj => simp at hj; subst hj; simp [Addr.add]
 | 3, hj => simp at hj; subst hj; simp [Addr.add]
 | 4, hj => simp at hj; subst hj; simp [Addr.add]
 | 5, hj => simp at hj; subst hj; simp [Addr.add]
theorem six_one {a b c d f : Int} {t : Bool} : ∀ u ∈ [Value.int .i64 a, .int .i64 b, .int .i64 c, .int .i64 d, .int .i64 f, .bool t], u.oneCell' = true := by
 intro u hu
 simp at hu
 rcases hu with rfl | rfl | rfl | rfl | rfl | rfl <;> rfl
def cs00 : CS := ⟨List.replicate 32 0, 0, 0, 0, []⟩
def zeroCells (bp cv : Value) : List Value := coreCells bp cv (.slice none 0 0) cs00
def okRows (is : List Ins5) : List (Ins5 × Bool) := is.map fun i => (i, true)
theorem rowCells_snoc (l : List (Ins5 × Bool)) (i : Ins5) (t : Bool) : rowCells (l ++ [(i, t)]) = rowCells l ++ [.int .i64 i.op, .int .i64 i.d, .int .i64 i.a, .int .i64 i.b, .int .i64 i.n, .bool t] := by
 simp [rowCells, insCells]
theorem encI_bounds {i : Ins5} (h : chkI i = 0) : 0 ≤ encI i ∧ encI i ≤ 4294967295 := by
 have hb := fits_bounds ((chk_iff _ _ _ _ _).1 h)
 have hE : encK i.op i.d i.a i.b i.n 4 = i.op * 67108864 + i.d * 2097152 + i.a * 65536 + i.b * 2048 + i.n % 65536 := rfl
 unfold encI
 rw [if_pos h, hE]
 omega
theorem decode_good (i : Ins5) (h : chkI i = 0) (w : World) : Calls Tryz.prog 42 #[.int .u32 (encI i)] w fun e w' => e = .returned (.tuple #[insV i.op i.d i.a i.b i.n, .int .i64 0]) ∧ Chg w w' [] := by
 have := decode_any (encI i) w (encI_bounds h).1 (encI_bounds h).2
 rwa [dec_encI h] at this
set_option maxRecDepth 100000 in
set_option maxHeartbeats 2000000 in
theorem cnew_calls {w : World} (A : Option Addr) (cp : Nat) (is : List Ins5) (hs : Sl w (.slice A is.length cp) ((is.map encI).map (Value.int .u32))) (hok : ∀ i ∈ is, chkI i = 0) (hl : is.length ≤ 16384)
 (A2 : Option Addr) (cp2 : Nat) (ws : List Int) (hw : ws.length ≤ 2048) (hd : Sl w (.slice A2 ws.length cp2) (i32s ws)) :
 Calls Tryz.prog 17 #[.slice A is.length cp, .slice A2 ws.length cp2] w fun e w' => ∃ c b r cv, e = .returned (.tuple #[.pointer (some ⟨c, 0, none⟩), .int .i64 0]) ∧ Chg w w' [] ∧ CB w' c (.pointer (some ⟨b, 0, none⟩)) cv (.slice none 0 0) (okRows is) cs00 ∧ IsRam w' b r ws ∧ w.heap.size ≤ b ∧ w.heap.size ≤ r ∧ (∀ k ∈ footC c cv (.slice none 0 0), w.heap.size ≤ k) := by
 obtain ⟨i0, hi, hz0, hz1, hz2⟩ := info_parts info_row6
 have hnew := new_any A2 cp2 ws w hw hd
 have HS := hide hs
 have HOK := hide hok
 clear hs hok hd
 go_enter Tryz.func17, Tryz.ntmps17
 go_wp2_with fail
 go_at_call 41
 refine hnew.mono ?_
 rintro e w1 ⟨b, r, rfl, hram, hb1, hr1, hc1⟩
 have HRAM := hide hram
 have HC1 := hide hc1
 have HL := hide hl
 have hx1 : decide ((16384 : Int) < (is.length : Int)) = false := by simp; omega
 clear hram hc1 hnew
 go_wp2
 generalize hcq : w1.heap.size = c at *
 replace hcq := hide hcq
 go_loopw [30] (fun i wr => ∃ (k : Nat) (cv : Value), k ≤ is.length ∧ i = .int .i64 k ∧ Hid (Chg w1 wr []) ∧ Hid (CB wr c (.pointer (some ⟨b, 0, none⟩)) cv (.slice none 0 0) (okRows (is.take k)) cs00) ∧ Hid (∀ g, cv.ownBlock = some g → c ≤ g)) (fun i _ => is.length - (intOf i).toNat)
 case atStart =>
  refine ⟨0, .slice none 0 0, Nat.zero_le _, rfl, hide ((Chg.refl w1 []).alloc _), hide ⟨by rw [← hcq.out]; exact Blk.new w1 86 (zeroCells (.pointer (some ⟨b, 0, none⟩)) (.slice none 0 0)), World.ownsRow_nil _ _ _ _, World.ownsRow_nil _ _ _ _, rfl⟩, hide (fun g hg => by simp [Value.ownBlock] at hg)⟩
 case round =>
  obtain ⟨k, cv, hk, rfl, HR, HB, HV⟩ := hrel
  by_cases hlt : k < is.length
  · obtain ⟨i, hik⟩ : ∃ i, is[k]? = some i := ⟨is[k], by simp [hlt]⟩
    have hci : chkI i = 0 := HOK.out i (List.mem_of_getElem? hik)
    have HTK : Hid (is.take (k + 1) = is.take k ++ [i]) := hide (by rw [List.take_add_one, hik]; rfl)
    obtain ⟨b0, off, hA, hcell, hbl⟩ := HS.out.at_ (k := k) (u := .int .u32 (encI i)) (by simp [hik])
    subst hA
    have hcr := (HC1.out.trans HR.out (by simp)).cell hcell (by simp)
    have hdec := decode_good i hci wr
    have HCI := hide hci
    generalize encI i = ei at *
    clear hcell hik hci
    obtain ⟨op, d, a, bb, n⟩ := i
    unfold insV at hdec
    go_wp2_with fail
    go_at_call 42
    refine hdec.mono ?_
    rintro e w2 ⟨rfl, hc2⟩
    have HC2 := hide hc2
    clear hc2 hcr hdec
    go_upto_region 9 with (fail)
    have hlq : (okRows (is.take k)).length = k := by simp [okRows]; omega
    have hsnoc : Hid (okRows (is.take (k + 1)) = okRows (is.take k) ++ [(⟨op, d, a, bb, n⟩, true)]) := hide (by rw [HTK.out]; simp [okRows])
    have hcz := (Chg.refl w2 []).alloc (.cells #[.int .i64 op, .int .i64 d, .int .i64 a, .int .i64 bb, .int .i64 n] 25)
    have hbx := Blk.new w2 25 [.int .i64 op, .int .i64 d, .int .i64 a, .int .i64 bb, .int .i64 n]
    have hb3 := (HB.out.chg HC2.out (by simp)).chg hcz (by simp)
    have hs0 := HC2.out.size
    generalize w2.heap.size = q at *
    have x0 := hbx.cell' (i := 0) rfl
    have x1 := hbx.cell' (i := 1) rfl
    have x2 := hbx.cell' (i := 2) rfl
    have x3 := hbx.cell' (i := 3) rfl
    have x4 := hbx.cell' (i := 4) rfl
    have xl := hbx.lt
    have HCZ : Hid (Chg w1 _ []) := hide ((HR.out.trans HC2.out (by simp)).trans hcz (by simp))
    generalize w2.alloc _ = w3 at *
    generalize okRows (is.take k) = rows at *
    have c1 : w3.cell? ⟨c, 1, none⟩ = some cv := hb3.blk.cell' (i := 1) rfl
    have f1 := hb3.blk.frozen 1
    have hcl := hb3.blk.lt
    have HB3 := hide hb3
    obtain ⟨A3, c3, rfl⟩ := own_slice hb3.rowC
    have hrl : rows.length ≤ 16384 := by have := HL.out; omega
    have HLQ := hide hlq
    clear hcz hbx hb3 HB HC2 HR hs0 hlq
    go_region_law (refine step_append_lies _ rfl (.tmp 43) (.tmp 48) 82 rfl 0 90 i0 (.agg #[.int .i64 0, .int .i64 0, .int .i64 0, .int .i64 0, .int .i64 0, .bool false]) 6 48 Tryz.underlying82 hi hz0 hz1 hz2 rfl (by decide) (.slice A3 rows.length c3) rows.length _ (by simp [Act.eval]) ((HB3.out.rowC.alloc _).drew) ⟨w3.heap.size, 0, none⟩ 1 1 [.int .i64 op, .int .i64 d, .int .i64 a, .int .i64 bb, .int .i64 n, .bool true] (by simp [Act.eval]) rfl six_new six_one (by decide) (by unfold maxLen; omega) (by omega) (Nat.zero_le _) _ rfl ?_; rintro g cap w4 hown hgr hg2 hg3; have hc4 : Chg w3 w4 (Value.slice A3 rows.length c3).ownBlock.toList := ((((Chg.refl w3 _).alloc _).drew).trans (Chg.of_grown hgr (fun k hk => .inl (by simp [hk]))) (fun k hk => .inl hk)); have hb4 := HB3.out.blk.chg hc4 (by simpa using fun e => HB3.out.ne.1 e); have y1 := hb4.cell' (i := 1) rfl; have yf := hb4.frozen 1; have yl := hb4.lt; have HB4 := hide hb4; have HC4 := hide hc4; have HO4 := hide hown; have hg2 := hg2.imp id (fun h => h.trans (size_alloc w3 (.cells #[.int .i64 op, .int .i64 d, .int .i64 a, .int .i64 bb, .int .i64 n, .bool true] 90))); have HG4 := hide hg2; clear hown hgr hc4 hb4 hg2; skip)
    all_goals
     go_wp2
     go_roundw
     case rel =>
      have hgl : g < w4.heap.size := hg3
      obtain ⟨n1, n2, n3⟩ := HB3.out.ne
      have hbg : g ≠ c := fun e => by
       rcases HG4.out with h | h
       · exact n1 (by rw [h, e])
       · omega
      have hgc : c ≤ g := by
       rcases HG4.out with h | h
       · exact HV.out g h
       · omega
      have hc5 : Chg w4 (w4.setCell ⟨c, 1, none⟩ (.slice (some ⟨g, 0, none⟩) (rows.length + 1) cap)) [c] := (Chg.refl w4 _).setCell _ _ (by simp)
      refine ⟨k + 1, .slice (some ⟨g, 0, none⟩) (rows.length + 1) cap, by omega, by go_num, ?_, hide ⟨HB4.out.set_ 1 _, ?_, World.ownsRow_nil _ _ _ _, rfl⟩, hide ?_⟩
      · have hq := hcq.out
        exact hide ((HCZ.out.trans HC4.out (fun k hk => .inr (by have := HV.out k (Option.mem_toList.1 hk); omega))).trans hc5 (fun k hk => .inr (by simp only [List.mem_singleton] at hk; omega)))
      · rw [hsnoc.out, rowCells_snoc, List.length_append]
        exact own_chgD HO4.out hc5 (fun k hk => by simp [Value.ownBlock] at hk; subst hk; simpa using hbg)
      · intro g' hg'
        simp [Value.ownBlock] at hg'
        subst hg'
        exact hgc
     case measure => simp [intOf]; omega
  · obtain rfl : k = is.length := by omega
    go_wp2
    go_ret2
    have hb := HB.out
    rw [List.take_length] at hb
    have hq := hcq.out
    have hz := HC1.out.size
    refine ⟨c, b, r, cv, rfl, HC1.out.trans HR.out (by simp), hb, HRAM.out.chg HR.out (by simp) (by simp), hb1, hr1, fun k hk => ?_⟩
    simp only [footC, List.mem_append, List.mem_singleton, Option.mem_toList, Value.ownBlock] at hk
    rcases hk with rfl | hk | hk
    · omega
    · exact Nat.le_trans (by omega) (HV.out k hk)
    · cases hk
end Go.Proofs.YtjfnpokebaagmaaGreatDoor
