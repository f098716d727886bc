/- Texts of this claim, side by side: Lrun, RefCost, MakM, MakR, MakS, MakT, MakU, Kimg. -/
import Derived.Test.YthnhilghjadigaaGreatDoorKC16
import Derived.StillTailTactics
import Derived.Test.YthnhilghjadigaaGreatDoorXiV
import Derived.Test.YthnhilghjadigaaGreatDoorKC12
import Derived.Test.YthnhilghjadigaaGreatDoorKC15
/- The laws' Run: a run of an image with inputs. -/
namespace Go.Proofs.YthnhilghjadigaaGreatDoor
open Go Go.RowKit Go.Deep Go.Maps Go.Proofs.YthnhilghjadigaaGreatDoor.Ab
set_option linter.unusedVariables false
attribute [local go_sem] Oper.semAt_some
section
variable {w : World} {words : List Nat} {data : List Int} {ins outs : List Nat} {xs vals : List Int} {ks : List Mk}
set_option maxRecDepth 100000 in
set_option maxHeartbeats 4000000 in
theorem lrun_calls (hg : Glo w) {v vin : Value} {sec : List Bool} (him : ImgAt w v (words.map fun n : Nat => (n : Int)) data sec ins outs) (hin : Sl w vin (i32s xs)) (hw : Way words data ins outs xs vals ks) :
 Calls Tryz.prog 9 #[v, vin] w fun e w' => ∃ u m, e = .returned (.tuple #[u, m, .bool true]) ∧ Chg w w' [] ∧ w'.ownsRow w.heap.size 21 1 u outs.length (i32s vals) ∧ w'.ownsRow w.heap.size 74 3 m ks.length (markCells (ks.map mkI)) := by
 obtain ⟨i0, hi0, hz0, hz1, hz2⟩ := info_parts info_i32
 obtain ⟨mem, N, m', hm, hr, hst, hN, hks, hv⟩ := hw.run
 obtain ⟨vc, vd, vs, vi, vo, rfl, g1, g2, g3, g4, g5⟩ := him
 obtain ⟨Ac, cc, rfl, _⟩ := id g1
 obtain ⟨Ad, cd, rfl, _⟩ := id g2
 obtain ⟨As, cs, rfl, _⟩ := id g3
 obtain ⟨Ai, ci, rfl, hi⟩ := sl_open g4
 obtain ⟨Ao, co, rfl, ho⟩ := sl_open g5
 obtain ⟨Ax, cx, rfl, hx⟩ := sl_open hin
 have e1 : (u32s (words.map fun n : Nat => (n : Int))).length = words.length := by rw [u32s_length, List.length_map]
 have hl := hw.xl
 simp only [e1, i32s_length, ints_length] at *
 rw [hl]
 have hzi : (w.alloc (.cells #[.slice Ac words.length cc, .slice Ad data.length cd, .slice As (bools sec).length cs, .slice Ai ins.length ci, .slice Ao outs.length co] 29)).heap.size = w.heap.size + 1 := size_alloc _ _
 have hnew := inew_calls (hg.chg ((Chg.refl w []).alloc (.cells #[.slice Ac words.length cc, .slice Ad data.length cd, .slice As (bools sec).length cs, .slice Ai ins.length ci, .slice Ao outs.length co] 29)) (by simp)) Ac Ad cc cd words data (g1.keep ((Chg.refl w []).alloc _)) (g2.keep ((Chg.refl w []).alloc _)) hw.enc hw.chk hw.wl hw.dl
 have hq := Blk.new w 29 [.slice Ac words.length cc, .slice Ad data.length cd, .slice As (bools sec).length cs, .slice Ai ins.length ci, .slice Ao outs.length co]
 have HG := hide hg
 have HI := hide hi
 have HO := hide ho
 have HX := hide hx
 have HW := hide hw
 have HM := hide hm
 have HR := hide hr
 have HKS := hide hks
 have HV := hide hv
 have HQ := hide hq
 have HXL := hide hl
 have HST := hide hst
 have HNN := hide hN
 have hil := hw.il
 have hol := hw.ol
 clear hg hin hw hm hr hks hv g1 g2 g3 g4 g5 e1 hq hi ho hx hl hst hN
 go_enter Tryz.func9, Tryz.ntmps9
 go_wp2_with fail
 go_at_call 26
 refine hnew.mono ?_
 rintro e w1 ⟨c, F, rfl, hc1, hk1, hf1⟩
 have HCW := hide (((Chg.refl w []).alloc (.cells #[.slice Ac words.length cc, .slice Ad data.length cd, .slice As (bools sec).length cs, .slice Ai ins.length ci, .slice Ao outs.length co] 29)).trans hc1 (by simp))
 have HF := hide (show ∀ k ∈ F, w.heap.size + 1 ≤ k from fun k hk => by have := hf1 k hk; omega)
 have HLT := hide hk1.lt
 have HK1 := hide hk1
 have HQ1 := hide (HQ.out.chg hc1 (by simp))
 have y3 := HQ1.out.cell' (i := 3) rfl
 clear hnew hc1 hk1 hf1 hzi
 go_wp2_with fail
 go_loopw [9] (fun i wr => ∃ j : Nat, j ≤ ins.length ∧ i = .int .i64 j ∧ Hid (Chg w1 wr F) ∧ Hid (CoreAt wr c words cs00 (pokesL (ins.take j) (xs.take j) data) F)) (fun i _ => ins.length - (intOf i).toNat)
 case atStart => exact ⟨0, Nat.zero_le _, rfl, hide (Chg.refl w1 F), hide (by simp only [List.take_zero]; exact HK1.out)⟩
 case round =>
  obtain ⟨j, hj, rfl, HC, HK⟩ := hrel
  have hq9 : w.heap.size ∉ F := fun hm => by have := HF.out _ hm; omega
  have hbr := HQ1.out.chg HC.out hq9
  have z3 := hbr.cell' (i := 3) rfl
  have HBR := hide hbr
  clear hbr y3
  by_cases hlt : j < ins.length
  · obtain ⟨a, hja⟩ : ∃ a, ins[j]? = some a := ⟨ins[j], by simp [hlt]⟩
    obtain ⟨x, hjx⟩ : ∃ x, xs[j]? = some x := ⟨xs[j]'(by have := HXL.out; omega), by simp⟩
    have hw0 : Chg w wr [] := HCW.out.trans HC.out (fun k hk => .inr (by have := HF.out k hk; omega))
    obtain ⟨bi, oi, rfl, hci, hbi⟩ := HI.out j _ (ints_at hja)
    obtain ⟨bx, ox, rfl, hcx, hbx⟩ := HX.out j _ (show (i32s xs)[j]? = some (.int .i32 x) by simp [i32s, hjx])
    have ci := hw0.cell hci (by simp)
    have cx' := hw0.cell hcx (by simp)
    have hpk := ipoke_calls (HK.out.chg0 ((Chg.refl wr []).drew)) a x (by rw [pokes_len]; exact HW.out.insd a (List.mem_of_getElem? hja))
    have hset : (pokesL (ins.take j) (xs.take j) data).set a x = pokesL (ins.take (j + 1)) (xs.take (j + 1)) data := by
     rw [List.take_add_one, hja, List.take_add_one, hjx]
     exact (pokes_snoc _ _ _ a x (by have := HXL.out; simp; omega)).symm
    rw [hset] at hpk
    clear hset hci hcx hw0 hja hjx
    go_wp2_with fail
    go_still_tail 10, (by kernel_rfl)
    change wpList _ _ _ _ _ wr.drew
    go_wp2_with fail
    go_at_call 27
    refine hpk.mono ?_
    rintro e w2 ⟨rfl, hc2, hk2⟩
    have hC2 : Chg wr w2 F := ((Chg.refl wr F).drew).trans hc2 (fun k hk => .inl hk)
    have z3' := (HBR.out.chg hC2 hq9).cell' (i := 3) rfl
    have HC2 := hide hC2
    have HK2 := hide hk2
    clear hc2 hk2 hpk hC2 z3
    go_wp2
    go_roundw
    case rel => exact ⟨j + 1, by omega, by go_num, hide (HC.out.trans HC2.out (fun k hk => .inl hk)), HK2⟩
    case measure => simp [intOf]; omega
  · have hjl : j = ins.length := by omega
    subst hjl
    rw [List.take_length, List.take_of_length_le (by have := HXL.out; omega)] at HK
    have hrn := irun_calls HK.out (by have := HG.out.size; have := HCW.out.size; have := HC.out.size; omega) HM.out HR.out HST.out (by have := HW.out.wl; omega) HNN.out
    go_wp2_with fail
    go_at_call 28
    refine hrn.mono ?_
    rintro e w3 ⟨⟨n, rfl⟩, hc3, F3, hs3, hk3⟩
    have HC3 : Hid (Chg w w3 []) := hide (HCW.out.trans (HC.out.trans hc3 (fun k hk => .inl hk)) (fun k hk => .inr (by have := HF.out k hk; omega)))
    have HB3 := hide (HBR.out.chg hc3 hq9)
    have HK3 := hide hk3
    clear hc3 hs3 hk3 hrn z3
    go_wp2_with fail
    go_loopw [10, 11, 12, 13] (fun v i _ _ wr => ∃ j : Nat, j ≤ outs.length ∧ i = .int .i64 j ∧ Hid (Chg w3 wr []) ∧ Hid (wr.ownsRow w3.heap.size 21 1 v j (i32s (vals.take j)))) (fun _ i _ _ _ => outs.length - (intOf i).toNat)
    case atStart => exact ⟨0, Nat.zero_le _, rfl, hide (Chg.refl _ _), hide (World.ownsRow_nil _ _ _ _)⟩
    case round =>
     obtain ⟨j, hj, rfl, HR3, HO3⟩ := hrel
     have y4 := (HB3.out.chg HR3.out (by simp)).cell' (i := 4) rfl
     by_cases hlt : j < outs.length
     · obtain ⟨a, hja⟩ : ∃ a, outs[j]? = some a := ⟨outs[j], by simp [hlt]⟩
       obtain ⟨x, hjx⟩ : ∃ x, vals[j]? = some x := ⟨vals[j]'(by have := HW.out.vl; omega), by simp⟩
       obtain ⟨bo, oo, rfl, hco, hbo⟩ := HO.out j _ (ints_at hja)
       have co' := (HC3.out.trans HR3.out (by simp)).cell hco (by simp)
       have hld := iload_calls (HK3.out.chg0 HR3.out) a x (HV.out j a x hja hjx)
       have htk : i32s (vals.take (j + 1)) = i32s (vals.take j) ++ [.int .i32 x] := by
        rw [List.take_add_one, hjx]
        simp [i32s]
       have HTK := hide htk
       obtain ⟨V, vc, rfl⟩ := own_slice HO3.out
       clear hja hjx hco htk
       go_wp2_with fail
       go_at_call 29
       refine hld.mono ?_
       rintro e w4 ⟨rfl, hc4⟩
       have HC4 := hide (HR3.out.trans hc4 (by simp))
       have HO4 := hide (own_chgD HO3.out hc4 (by simp))
       clear hc4 hld y4
       go_wp2_with (at_builtin; refine wpList_append_own _ rfl _ _ 25 rfl w3.heap.size 21 i0 (.int .i32 0) 1 4 Tryz.underlying25 hi0 hz0 hz1 hz2 rfl (by decide) _ j _ rfl (HO4.out.alloc _) ⟨w4.heap.size, 0, none⟩ 1 1 [.int .i32 x] rfl rfl ?c1 ?c2 ?c3 ?c4 ?c5 ?_)
       case c1 =>
        intro j u hj
        match j, hj with
        | 0, hj => simp at hj; subst hj; simp [Addr.add]
       case c2 => intro u hu; simp at hu; subst hu; rfl
       case c3 => unfold maxLen; omega
       case c4 => omega
       case c5 => have := HC4.out.size; simp; omega
       intro v' w5 hown' hgrow _
       have HG5 : Hid (Chg w3 w5 []) := hide ((HC4.out.alloc _).trans (D' := (Value.slice V j vc).ownBlock.toList) (Chg.of_grown hgrow (fun k hk => .inl (by simp [hk]))) (fun k hk => .inr (HO4.out.lt k (by simpa using hk)).1))
       have HO5 := hide hown'
       obtain ⟨A6, c6, hv'⟩ := own_slice hown'
       clear hown' hgrow
       go_wp2
       go_roundw
       case rel => exact ⟨j + 1, by omega, by go_num, HG5, hide (by rw [HTK.out]; exact HO5.out)⟩
       case measure => simp [intOf]; omega
     · have hjl : j = outs.length := by omega
       subst hjl
       have ho := HO3.out
       rw [List.take_of_length_le (by have := HW.out.vl; omega)] at ho
       have hmk := imarks_calls (HK3.out.chg0 HR3.out) (by show 0 < (m'.ks.map mkI).length; rw [List.length_map, HKS.out]; exact HW.out.k0) (by show (m'.ks.map mkI).length ≤ _; rw [List.length_map, HKS.out]; exact HW.out.kl)
       have e2 : (csM m').marks = ks.map mkI := by show m'.ks.map mkI = _; rw [HKS.out]
       rw [e2, List.length_map] at hmk
       have HOF := hide ho
       obtain ⟨V, vc, rfl⟩ := own_slice HO3.out
       clear ho
       go_wp2_with fail
       go_at_call 30
       refine hmk.mono ?_
       rintro e w4 ⟨vm, rfl, hc4, ho4⟩
       have hst := istate_calls (HK3.out.chg0 (HR3.out.trans hc4 (by simp)))
       have hst1 : (csM m').st = 1 := by show ((m'.st : Nat) : Int) = 1; rw [HST.out]; rfl
       rw [hst1] at hst
       have HC4 := hide ((HC3.out.trans HR3.out (by simp)).trans hc4 (by simp))
       have HO4 := hide (own_chgD HOF.out hc4 (by simp))
       have HM4 := hide ho4
       have HZ3 := hide (show w3.heap.size ≤ wr.heap.size from HR3.out.size)
       obtain ⟨VM, vmc, rfl⟩ := own_slice ho4
       clear hmk hc4 ho4
       go_wp2_with fail
       go_at_call 31
       refine hst.mono ?_
       rintro e w5 ⟨rfl, rfl⟩
       go_wp2
       refine bodyPost_ret (results_tmp3 rfl _ _ _) rfl ?_
       refine ⟨_, _, rfl, HC4.out, own_low HO4.out HC3.out.size, ?_⟩
       exact own_low HM4.out (Nat.le_trans HC3.out.size HZ3.out)
end
end Go.Proofs.YthnhilghjadigaaGreatDoor

/- The reference's Cost: what a list of leaks comes to. -/
namespace Go.Proofs.YthnhilghjadigaaGreatDoor
open Go Go.RowKit Go.Deep Go.Maps Go.Proofs.YthnhilghjadigaaGreatDoor.Ab
set_option linter.unusedVariables false
attribute [local go_sem] Oper.semAt_some
theorem markCells_at : ∀ (l : List (Int × Int × Int)) (j : Nat) (p : Int × Int × Int), l[j]? = some p → (markCells l)[j * 3]? = some (.int .i64 p.1) ∧ (markCells l)[j * 3 + 1]? = some (.int .i64 p.2.1) ∧ (markCells l)[j * 3 + 2]? = some (.int .i64 p.2.2)
 | [], j, p, h => by simp at h
 | q :: l, 0, p, h => by
  simp at h; subst h
  exact ⟨rfl, rfl, rfl⟩
 | q :: l, j + 1, p, h => by
  have := markCells_at l j p (by simpa using h)
  have e : markCells (q :: l) = .int .i64 q.1 :: .int .i64 q.2.1 :: .int .i64 q.2.2 :: markCells l := rfl
  rw [e, show (j + 1) * 3 = j * 3 + 1 + 1 + 1 from by omega]
  simpa using this
theorem sumC_take (ks : List Mk) (h : ∀ k ∈ ks, k.co ≤ 3) (j : Nat) : 0 ≤ sumC (ks.take j) ∧ sumC (ks.take j) ≤ 3 * (j : Int) := by
 have := sumC_bound (ks.take j) (fun k hk => h k (List.mem_of_mem_take hk))
 have hl : (ks.take j).length ≤ j := by simp; omega
 omega
section
variable {w : World} {b : Nat} {v : Value} {ks : List Mk}
set_option maxRecDepth 100000 in
set_option maxHeartbeats 2000000 in
theorem refcost_calls (h : w.ownsRow b 74 3 v ks.length (markCells (ks.map mkI))) (h3 : ∀ k ∈ ks, k.co ≤ 3) (h0 : 0 < ks.length) (hl : ks.length ≤ 1048576) :
 Calls Tryz.prog 12 #[v] w fun e w' => e = .returned (.int .i64 (sumC ks)) ∧ Chg w w' [] := by
 obtain ⟨A, c, rfl, hx⟩ := row_open h
 obtain ⟨g, rfl, hgl, hgb, hcells⟩ := hx h0
 have HX := hide hcells
 have H3 := hide h3
 clear h hx hcells h3
 go_enter Tryz.func12, Tryz.ntmps12
 go_wp2_with fail
 go_loopw [3, 4] (fun s i wr => ∃ j : Nat, j ≤ ks.length ∧ i = .int .i64 j ∧ s = .int .i64 (sumC (ks.take j)) ∧ Hid (Chg w wr [])) (fun _ i _ => ks.length - (intOf i).toNat)
 case atStart => exact ⟨0, Nat.zero_le _, rfl, rfl, hide (Chg.refl w [])⟩
 case round =>
  obtain ⟨j, hj, rfl, rfl, HC⟩ := hrel
  by_cases hlt : j < ks.length
  · obtain ⟨k, hk⟩ : ∃ k, ks[j]? = some k := ⟨ks[j], by simp [hlt]⟩
    have hc : wr.cell? ⟨g, j * 3 + 2, none⟩ = some (.int .i64 (k.co : Int)) := HC.out.cell (HX.out _ _ (markCells_at (ks.map mkI) j (mkI k) (by simp [hk])).2.2) (by simp)
    have b1 := sumC_take ks H3.out j
    have hk3 : k.co ≤ 3 := H3.out k (List.mem_of_getElem? hk)
    have hs : sumC (ks.take (j + 1)) = sumC (ks.take j) + (k.co : Int) := by
     rw [List.take_add_one, hk]
     exact sumC_snoc _ _
    have HS := hide hs
    clear hs hk
    have hw : wrap64 (sumC (ks.take j) + (k.co : Int)) = sumC (ks.take j) + (k.co : Int) := by unfold wrap64; omega
    go_wp2
    go_roundw
    case rel => exact ⟨j + 1, by omega, by go_num, by rw [HS.out], HC⟩
    case measure => simp [intOf]; omega
  · have hjl : j = ks.length := by omega
    subst hjl
    rw [List.take_length]
    go_wp2
    go_ret
    exact ⟨rfl, HC.out⟩
end
end Go.Proofs.YthnhilghjadigaaGreatDoor

/- Xi: runs on a maker of programs: calls that are handed the maker answer words of memory, and go on with its state. -/
namespace Go.Proofs.YthnhilghjadigaaGreatDoor.Xi
open Go Go.RowKit Go.Proofs.YthnhilghjadigaaGreatDoor.Ab
set_option linter.unusedVariables false
set_option linter.unusedSimpArgs false
theorem list_of_blk {w : World} {g : Nat} {t t' : TypeId} {l l' : List Value} (h : Blk w g t l) (h' : Blk w g t' l') : l = l' := by
 unfold Blk at h h'
 rw [h] at h'
 injection h' with h'
 injection h' with h'
 have := congrArg Array.toList h'
 simpa using this
theorem PB.uniq {w : World} {b : Nat} {bm bm' : BM} {F F' : List Nat} (h : PB w b bm F) (h' : PB w b bm' F') : F = F' := by
 obtain ⟨t, m, cv, uv, n, hp, rfl, _⟩ := h
 obtain ⟨t', m', cv', uv', n', hp', rfl, _⟩ := h'
 have e := list_of_blk hp.blk hp'.blk
 simp at e
 obtain ⟨rfl, rfl⟩ := e
 have e := list_of_blk hp.tab.blk hp'.tab.blk
 simp at e
 obtain ⟨rfl, rfl⟩ := e
 rfl
theorem KR.uniq {w : World} {b : MP} {s s' : KS} {F F' : List Nat} (h : KR w b s F) (h' : KR w b s' F') : F = F' := by
 obtain ⟨p, hp, _, rfl⟩ := h
 obtain ⟨p', hp', _, rfl⟩ := h'
 have e := list_of_blk hp.blk hp'.blk
 simp at e
 obtain ⟨e1, e2, e3, e4, e5, e6, e7, e8, e9, e10⟩ := e
 have hb := hp.bld
 rw [e1] at hb
 have f1 := PB.uniq hb hp'.bld
 have hpl := hp.plan.blk
 rw [e2] at hpl
 have e := list_of_blk hpl hp'.plan.blk
 simp at e
 unfold KP.foot
 rw [f1, e2, e3, e4, e5, e6, e9, e10, e.2]
open Classical in
noncomputable def fpK (b : MP) (s : KS) (w : World) : List Nat := if h : ∃ F, KR w b s F then h.choose else []
theorem fpK_eq {b : MP} {s : KS} {w : World} {F : List Nat} (h : KR w b s F) : fpK b s w = F := by
 unfold fpK
 rw [dif_pos ⟨F, h⟩]
 exact KR.uniq (Exists.choose_spec (⟨F, h⟩ : ∃ F, KR w b s F)) h
theorem Fr.some_chgK {w w' : World} {D : Nat → Prop} (h : Fr w w' D) : ∃ L : List Nat, Chg w w' L ∧ ∀ k ∈ L, D k := by
 classical
 refine ⟨(List.range w.heap.size).filter fun k => decide (D k), ⟨h.os, h.tape, h.output, h.size, fun k hk hn => h.block k hk fun hd => hn ?_⟩, fun k hk => ?_⟩
 · simp [List.mem_filter, hk, hd]
 · have := (List.mem_filter.1 hk).2
   simpa using this
def Same (G : Nat → Option Obj) (w : World) : Prop := ∀ g, g < 8 → w.heap[g]? = G g
theorem Same.chg {G : Nat → Option Obj} {w w' : World} {L : List Nat} (h : Same G w) (hz : 8 ≤ w.heap.size) (hc : Chg w w' L) (hL : ∀ k ∈ L, 8 ≤ k) : Same G w' := fun g hg => by
 rw [hc.block g (by omega) (fun hm => by have := hL g hm; omega)]
 exact h g hg
def SameX (G : Nat → Option Obj) (X : List Nat) (w : World) : Prop := ∀ g ∈ X, g < w.heap.size ∧ w.heap[g]? = G g
def kpX (X : List Nat) : List Nat := List.range 8 ++ X
theorem SameX.chg {G : Nat → Option Obj} {X : List Nat} {w w' : World} {L : List Nat} (h : SameX G X w) (hc : Chg w w' L) (hL : ∀ g ∈ X, g ∉ L) : SameX G X w' := fun g hg => by
 obtain ⟨h1, h2⟩ := h g hg
 exact ⟨Nat.lt_of_lt_of_le h1 hc.size, (hc.block g h1 (hL g hg)).trans h2⟩
theorem wide_of {F1 F : List Nat} {w : World} {R : List Nat} (hs : Sub F1 F w) : ∀ k ∈ F1 ++ R, k ∈ F ++ R ∨ w.heap.size ≤ k := fun k hk => by
 rcases List.mem_append.1 hk with hk | hk
 · exact (hs k hk).imp_left (List.mem_append_left _)
 · exact .inl (List.mem_append_right _ hk)
theorem chg_same {G : Nat → Option Obj} {X : List Nat} {w w' : World} {F : List Nat} (hf : Fr w w' (· ∈ F ++ kpX X)) (h : Same G w) (h' : Same G w') (hx : SameX G X w) (hx' : SameX G X w') : Chg w w' F :=
 ⟨hf.os, hf.tape, hf.output, hf.size, fun k hk hn => by
   by_cases hq : k < 8
   · rw [h k hq, h' k hq]
   · by_cases hX : k ∈ X
     · rw [(hx k hX).2, (hx' k hX).2]
     · exact hf.block k hk (fun hm => by
        rcases List.mem_append.1 hm with hm | hm
        · exact hn hm
        · rcases List.mem_append.1 hm with hm | hm
          · exact hq (List.mem_range.1 hm)
          · exact hX hm)⟩
theorem Chg.wideK {w w' : World} {F : List Nat} {R : List Nat} (h : Chg w w' F) : Chg w w' (F ++ R) := h.more fun k hk => .inl (List.mem_append_left _ hk)
theorem far_new {X F F' : List Nat} {w : World} {G : Nat → Option Obj} (hx : SameX G X w) (h : ∀ g ∈ X, g ∉ F) (hs : Sub F' F w) : ∀ g ∈ X, g ∉ F' := fun g hg hm => by
 have := (hx g hg).1
 rcases hs g hm with h1 | h1
 · exact h g hg h1
 · omega
noncomputable def MakerM (b : MP) (G : Nat → Option Obj) (X : List Nat) : Mach Tryz.prog where
 σ := KS
 I := fun s w => (∃ F, KR w b s F ∧ ∀ g ∈ X, g ∉ F) ∧ Same G w ∧ SameX G X w
 fp := fun s w => fpK b s w ++ kpX X
 lt := fun s w ⟨⟨F, h, hX⟩, _, hS⟩ d hd => by
  rw [fpK_eq h] at hd
  rcases List.mem_append.1 hd with hd | hd
  · exact h.lt d hd
  · rcases List.mem_append.1 hd with hd | hd
    · have := List.mem_range.1 hd; have := h.glo.size; omega
    · exact (hS d hd).1
 keep := fun s w w' D ⟨⟨F, h, hX⟩, hG, hS⟩ hf hD => by
  rw [fpK_eq h] at hD
  obtain ⟨L, hc, hL⟩ := hf.some_chgK
  have hq : ∀ k ∈ L, 8 ≤ k := fun k hk => by
   have := hD k (hL k hk)
   simp only [kpX, List.mem_append, List.mem_range, not_or] at this
   omega
  have hx : ∀ g ∈ X, g ∉ L := fun g hg hm => hD g (hL g hm) (List.mem_append_right _ (List.mem_append_right _ hg))
  have h' : KR w' b s F := h.chg hc (fun k hk hm => hD k (hL k hm) (List.mem_append_left _ hk)) hq
  exact ⟨⟨⟨F, h', hX⟩, hG.chg h.glo.size hc hq, hS.chg hc hx⟩, by rw [fpK_eq h, fpK_eq h']⟩
 step := fun s f cas v s' => ∀ (w : World) (args : List Value) (F : List Nat), KR w b s F → ArgsOk (F ++ kpX X) w args cas → Calls Tryz.prog f args.toArray w (MkP v s' b F w)
 beg := fun s f recv n i s1 => f = 291 ∧ recv = .pointer (some ⟨b.a, 0, none⟩) ∧ ∃ m : Nat, n = (m : Int) ∧ i = .int .i64 (s.used : Int) ∧ s1 = s.beg m ∧ s.can 1 = true ∧ 1 ≤ m ∧ m ≤ 32767 ∧ s.depth ≤ 10
 fin := fun s s2 f s' => f = 291 ∧ s' = s2.fin (s.names + 2) ∧ s2.depth = s.depth + 1 ∧ s2.nc ≤ 799980
 step_ok := fun s w f args cas v s' ⟨⟨F, h, hX⟩, hG, hS⟩ ha hs => by
  rw [fpK_eq h] at ha
  refine (hs w args F h ha).mono fun e w' hq => ?_
  obtain ⟨he, hc, F', hsub, hk⟩ := hq
  refine ⟨he, ⟨⟨F', hk, far_new hS hX hsub⟩, hG.chg h.glo.size hc h.high, hS.chg hc hX⟩, ?_, fun d hd => ?_⟩
  · rw [fpK_eq h]
    exact Fr.of_chg (Chg.wideK hc)
  · rw [fpK_eq hk] at hd
    rw [fpK_eq h]
    exact wide_of hsub d hd
 loop_ok := fun s w f recv n i bf first cap s1 s2 s' ⟨⟨F, h, hX⟩, hG, hS⟩ hb hf hcl hbody => by
  obtain ⟨rfl, rfl, m, rfl, rfl, rfl, hcan, hm1, hm2, hd⟩ := hb
  obtain ⟨_, rfl, hd2, hn2⟩ := hf
  have hnc := (can_iff hcan).2.2
  refine (mloop_calls h m bf first.toArray cap.toArray s2 hd hm1 hm2 hcan hnc hd2 (by omega) hcl fun w1 F1 hk1 hc1 hs1 => ?_).mono fun e w' hq => ?_
  · have hG1 := hG.chg h.glo.size hc1 h.high
    have hS1 := hS.chg hc1 hX
    have hX1 := far_new hS hX hs1
    have hb1 := hbody w1 ⟨⟨F1, hk1, hX1⟩, hG1, hS1⟩ (by rw [fpK_eq h]; exact Fr.of_chg (Chg.wideK hc1)) (fun d hd => by
     rw [fpK_eq hk1] at hd
     rw [fpK_eq h]
     exact wide_of hs1 d hd)
    rw [show first.toArray ++ #[Value.int .i64 (s.used : Int)] ++ cap.toArray = (first ++ [Value.int .i64 (s.used : Int)] ++ cap).toArray by simp]
    refine hb1.mono fun e w2 hq => ?_
    obtain ⟨he, ⟨⟨F2, hk2, hX2⟩, hG2, hS2⟩, hf2, hg2⟩ := hq
    rw [fpK_eq hk1] at hf2 hg2
    rw [fpK_eq hk2] at hg2
    refine ⟨he, chg_same hf2 hG1 hG2 hS1 hS2, F2, fun k hk => ?_, hk2⟩
    rcases hg2 k (List.mem_append_left _ hk) with h1 | h1
    · rcases List.mem_append.1 h1 with h1 | h1
      · exact .inl h1
      · rcases List.mem_append.1 h1 with h1 | h1
        · have := List.mem_range.1 h1; have := hk2.high k hk; omega
        · exact absurd hk (hX2 k h1)
    · exact .inr h1
  · obtain ⟨he, hc, F', hsub, hk⟩ := hq
    refine ⟨he, ⟨⟨F', hk, far_new hS hX hsub⟩, hG.chg h.glo.size hc h.high, hS.chg hc hX⟩, ?_, fun d hd => ?_⟩
    · rw [fpK_eq h]
      exact Fr.of_chg (Chg.wideK hc)
    · rw [fpK_eq hk] at hd
      rw [fpK_eq h]
      exact wide_of hsub d hd
end Go.Proofs.YthnhilghjadigaaGreatDoor.Xi

/- Xi: runs on a maker of programs, reckoned by the kernel. -/
namespace Go.Proofs.YthnhilghjadigaaGreatDoor.Xi
open Go Go.RowKit Go.Proofs.YthnhilghjadigaaGreatDoor.Ab
set_option linter.unusedVariables false
set_option linter.unusedSimpArgs false
inductive KA where
 | bare (p : Addr)
 | n (x : Nat)
 | c (x : Int)
 | li (l : List Int)
 | ln (l : List Nat)
def KA.Is (fp : List Nat) (w : World) : KA → Value → Prop
 | .bare p, v => v = .pointer (some p)
 | .n x, v => v = .int .i64 (x : Int)
 | .c x, v => v = .int .i32 x ∧ In32 x
 | .li l, v => Sl w v (i32s l) ∧ ∀ A n c, v = .slice (some A) n c → A.block ∉ fp
 | .ln l, v => Sl w v (ints l) ∧ ∀ A n c, v = .slice (some A) n c → A.block ∉ fp
def KAsIs (fp : List Nat) (w : World) : List KA → List Value → Prop
 | [], [] => True
 | a :: l, v :: vs => a.Is fp w v ∧ KAsIs fp w l vs
 | _, _ => False
def pkn (ρ : List Nat) : AV → Option Nat
 | .opq i => nth ρ i
 | .lit (.int .i64 (.ofNat m)) => some m
 | _ => none
def pki : List AV → Option (List Int)
 | [] => some []
 | .lit (.int .i32 n) :: l => match pki l with | some r => some (n :: r) | none => none
 | _ => none
def pkil (ρ : List Nat) : List AV → Option (List Nat)
 | [] => some []
 | a :: l => match pkn ρ a with
  | some x => (match pkil ρ l with | some xs => some (x :: xs) | none => none)
  | none => none
def pk1 (ρ : List Nat) : EA → Option KA
 | .v (.lit (.pointer (some p))) => some (.bare p)
 | .v (.lit (.int .i32 n)) => bif (Lit.int .i32 n).wf then some (.c n) else none
 | .v a => match pkn ρ a with | some x => some (.n x) | none => none
 | .l cs => match pki cs with
  | some l => some (.li l)
  | none => match pkil ρ cs with
   | some l => some (.ln l)
   | none => none
def pks (ρ : List Nat) : List EA → Option (List KA)
 | [] => some []
 | a :: l => match pk1 ρ a, pks ρ l with | some x, some xs => some (x :: xs) | _, _ => none
def ptrsK : List KA → List Addr
 | [] => []
 | .bare p :: l => p :: ptrsK l
 | _ :: l => ptrsK l
def ExtN (ρ : List Nat) (ρF : Nat → Value) : Prop := ∀ (i x : Nat), ρ[i]? = some x → ρF i = .int .i64 (x : Int)
theorem ExtN.of_append {ρ τ : List Nat} {ρF : Nat → Value} (h : ExtN (ρ ++ τ) ρF) : ExtN ρ ρF := fun i v hv => h i v (by
 have := (List.getElem?_eq_some_iff.1 hv).1
 rw [List.getElem?_append_left this]; exact hv)
theorem pkn_ok {ρ : List Nat} {ρF : Nat → Value} (hF : ExtN ρ ρF) {a : AV} {x : Nat} (h : pkn ρ a = some x) : a.conc (E0 ρF) = .int .i64 (x : Int) := by
 unfold pkn at h
 split at h
 · rw [nth_eq] at h
   exact hF _ x h
 · injection h with h
   subst h
   rfl
 · cases h
theorem pki_ok {ρF : Nat → Value} : ∀ {l : List AV} {r : List Int}, pki l = some r → concL (E0 ρF) l = i32s r
 | [], r, h => by unfold pki at h; injection h with h; subst h; rfl
 | .lit v :: l, r, h => by
  cases v with
  | int k n =>
   cases k with
   | i32 =>
    unfold pki at h
    cases hl : pki l with
    | none => rw [hl] at h; cases h
    | some q =>
     rw [hl] at h
     injection h with h
     subst h
     have := pki_ok (ρF := ρF) hl
     show Value.int .i32 n :: concL (E0 ρF) l = Value.int .i32 n :: i32s q
     rw [this]
   | _ => unfold pki at h; cases h
  | _ => unfold pki at h; cases h
 | .opq _ :: _, _, h => by unfold pki at h; cases h
 | .ptr _ _ :: _, _, h => by unfold pki at h; cases h
 | .slc _ _ _ _ :: _, _, h => by unfold pki at h; cases h
 | .row _ _ :: _, _, h => by unfold pki at h; cases h
 | .fn _ _ _ :: _, _, h => by unfold pki at h; cases h
 | .ifc _ _ :: _, _, h => by unfold pki at h; cases h
 | .agg _ :: _, _, h => by unfold pki at h; cases h
 | .tup _ :: _, _, h => by unfold pki at h; cases h
theorem pkil_ok {ρ : List Nat} {ρF : Nat → Value} (hF : ExtN ρ ρF) : ∀ {l : List AV} {r : List Nat}, pkil ρ l = some r → concL (E0 ρF) l = ints r
 | [], r, h => by unfold pkil at h; injection h with h; subst h; rfl
 | a :: l, r, h => by
  unfold pkil at h
  cases h1 : pkn ρ a with
  | none => rw [h1] at h; cases h
  | some x =>
   rw [h1] at h
   simp only [] at h
   cases h2 : pkil ρ l with
   | none => rw [h2] at h; cases h
   | some xs =>
    rw [h2] at h
    injection h with h
    subst h
    show a.conc (E0 ρF) :: concL (E0 ρF) l = .int .i64 (x : Int) :: ints xs
    rw [pkn_ok hF h1, pkil_ok hF h2]
theorem in32_wf {n : Int} (h : (Lit.int .i32 n).wf = true) : In32 n := by
 simp only [Lit.wf, IntKind.min, IntKind.max, IntKind.signed, IntKind.bits] at h
 simp at h
 unfold In32
 omega
theorem pk1_ok {ρ : List Nat} {ρF : Nat → Value} (hF : ExtN ρ ρF) {fp : List Nat} {w : World} {v : Value} {a : EA} {m : KA} (h : pk1 ρ a = some m) (hv : ArgOk fp w v (a.conc (E0 ρF))) : m.Is fp w v := by
 unfold pk1 at h
 split at h
 · injection h with h
   subst h
   exact hv
 · rename_i n
   cases hw : (Lit.int .i32 n).wf with
   | false => rw [hw] at h; cases h
   | true =>
    rw [hw] at h
    injection h with h
    subst h
    exact ⟨hv, in32_wf hw⟩
 · rename_i a' _ _
   cases hp : pkn ρ a' with
   | none => rw [hp] at h; cases h
   | some x =>
    rw [hp] at h
    injection h with h
    subst h
    have e : v = a'.conc (E0 ρF) := hv
    rw [pkn_ok hF hp] at e
    exact e
 · rename_i cs
   cases hp : pki cs with
   | none =>
    rw [hp] at h
    simp only [] at h
    cases hq : pkil ρ cs with
    | none => rw [hq] at h; cases h
    | some l =>
     rw [hq] at h
     injection h with h
     subst h
     obtain ⟨h1, h2⟩ := hv
     rw [pkil_ok hF hq] at h1
     exact ⟨h1, h2⟩
   | some l =>
    rw [hp] at h
    injection h with h
    subst h
    obtain ⟨h1, h2⟩ := hv
    rw [pki_ok hp] at h1
    exact ⟨h1, h2⟩
theorem pks_ok {ρ : List Nat} {ρF : Nat → Value} (hF : ExtN ρ ρF) {fp : List Nat} {w : World} : ∀ {l : List EA} {us : List KA} {args : List Value}, pks ρ l = some us → ArgsOk fp w args (l.map (EA.conc (E0 ρF))) → KAsIs fp w us args
 | [], us, args, h, ha => by
  unfold pks at h; injection h with h; subst h
  cases args with
  | nil => trivial
  | cons _ _ => exact ha.elim
 | a :: l, us, args, h, ha => by
  unfold pks at h
  cases h1 : pk1 ρ a with
  | none => rw [h1] at h; cases h
  | some x =>
   cases h2 : pks ρ l with
   | none => rw [h1, h2] at h; cases h
   | some ys =>
    rw [h1, h2] at h
    injection h with h
    subst h
    cases args with
    | nil => exact ha.elim
    | cons v vs => exact ⟨pk1_ok hF h1 ha.1, pks_ok hF h2 ha.2⟩
def stepK {γ : Type} (f : FuncId) (us : List KA) (s : KS) (k : Option Nat → KS → Option γ) : Option γ :=
 bif Nat.beq f 289 then (match us with | [.bare _, .n op, .n a, .n c] => opR s op a c none fun x s' => k (some x) s' | _ => none)
 else bif Nat.beq f 288 then (match us with | [.bare _, .c n] => constR s n none fun x s' => k (some x) s' | _ => none)
 else bif Nat.beq f 287 then (match us with | [.bare _, .n v] => cellR s v none fun x s' => k (some x) s' | _ => none)
 else bif Nat.beq f 290 then (match us with | [.bare _, .n v] => cellR s v none fun x s' => k (some x) s' | _ => none)
 else bif Nat.beq f 292 then (match us with | [.bare _, .n c, .n v] => setR s c v none fun s' => k none s' | _ => none)
 else bif Nat.beq f 286 then (match us with | [.bare _, .n t, .n i] => atR s t i none fun x s' => k (some x) s' | _ => none)
 else none
def ovK : Option Nat → Value
 | some x => .int .i64 (x : Int)
 | none => .tuple #[]
theorem ka2 {fp : List Nat} {w : World} {a c : KA} {args : List Value} (h : KAsIs fp w [a, c] args) : ∃ v1 v2, args = [v1, v2] ∧ a.Is fp w v1 ∧ c.Is fp w v2 := by
 match args, h with
 | [v1, v2], ⟨h1, h2, _⟩ => exact ⟨v1, v2, rfl, h1, h2⟩
theorem ka3 {fp : List Nat} {w : World} {a c d : KA} {args : List Value} (h : KAsIs fp w [a, c, d] args) : ∃ v1 v2 v3, args = [v1, v2, v3] ∧ a.Is fp w v1 ∧ c.Is fp w v2 ∧ d.Is fp w v3 := by
 match args, h with
 | [v1, v2, v3], ⟨h1, h2, h3, _⟩ => exact ⟨v1, v2, v3, rfl, h1, h2, h3⟩
theorem ka4 {fp : List Nat} {w : World} {a c d e : KA} {args : List Value} (h : KAsIs fp w [a, c, d, e] args) : ∃ v1 v2 v3 v4, args = [v1, v2, v3, v4] ∧ a.Is fp w v1 ∧ c.Is fp w v2 ∧ d.Is fp w v3 ∧ e.Is fp w v4 := by
 match args, h with
 | [v1, v2, v3, v4], ⟨h1, h2, h3, h4, _⟩ => exact ⟨v1, v2, v3, v4, rfl, h1, h2, h3, h4⟩
theorem stepK_ok {γ : Type} {b : MP} {R : List Nat} {f : FuncId} {us : List KA} {s : KS} {k : Option Nat → KS → Option γ} {y : γ} (h : stepK f us s k = some y) :
 ∃ o s', k o s' = some y ∧ ((∀ p ∈ ptrsK us, p = ⟨b.a, 0, none⟩) → ∀ (w : World) (args : List Value) (F : List Nat), KR w b s F → KAsIs (F ++ R) w us args → Calls Tryz.prog f args.toArray w (MkP (ovK o) s' b F w)) := by
 unfold stepK at h
 cases h1 : Nat.beq f 289 with
 | true =>
  rw [h1] at h
  obtain rfl := beq_iff.1 h1
  simp only [cond_true] at h
  split at h
  · rename_i p op a c
    obtain ⟨g1, g2, g3, g4, g5, g6⟩ := opR_ok h
    refine ⟨_, _, g6, fun hp w args F hk ha => ?_⟩
    obtain rfl := hp p (by simp [ptrsK])
    obtain ⟨v1, v2, v3, v4, rfl, rfl, rfl, rfl, rfl⟩ := ka4 ha
    exact do_calls hk op a c g2 g3 g4 g5 g1
  · cases h
 | false =>
 rw [h1] at h
 cases h2 : Nat.beq f 288 with
 | true =>
  rw [h2] at h
  obtain rfl := beq_iff.1 h2
  simp only [cond_true, cond_false] at h
  split at h
  · rename_i p n
    obtain ⟨g1, g2⟩ := constR_ok h
    refine ⟨_, _, g2, fun hp w args F hk ha => ?_⟩
    obtain rfl := hp p (by simp [ptrsK])
    obtain ⟨v1, v2, rfl, rfl, rfl, hn⟩ := ka2 ha
    exact const_calls hk n hn g1
  · cases h
 | false =>
 rw [h2] at h
 cases h3 : Nat.beq f 287 with
 | true =>
  rw [h3] at h
  obtain rfl := beq_iff.1 h3
  simp only [cond_true, cond_false] at h
  split at h
  · rename_i p v
    obtain ⟨g1, g2, g3⟩ := cellR_ok h
    refine ⟨_, _, g3, fun hp w args F hk ha => ?_⟩
    obtain rfl := hp p (by simp [ptrsK])
    obtain ⟨v1, v2, rfl, rfl, rfl⟩ := ka2 ha
    exact cell_calls hk v g2 g1
  · cases h
 | false =>
 rw [h3] at h
 cases h4 : Nat.beq f 290 with
 | true =>
  rw [h4] at h
  obtain rfl := beq_iff.1 h4
  simp only [cond_true, cond_false] at h
  split at h
  · rename_i p v
    obtain ⟨g1, g2, g3⟩ := cellR_ok h
    refine ⟨_, _, g3, fun hp w args F hk ha => ?_⟩
    obtain rfl := hp p (by simp [ptrsK])
    obtain ⟨v1, v2, rfl, rfl, rfl⟩ := ka2 ha
    exact get_calls hk v g2 g1
  · cases h
 | false =>
 rw [h4] at h
 cases h5 : Nat.beq f 292 with
 | true =>
  rw [h5] at h
  obtain rfl := beq_iff.1 h5
  simp only [cond_true, cond_false] at h
  split at h
  · rename_i p c v
    obtain ⟨g1, g2, g3, g4⟩ := setR_ok h
    refine ⟨_, _, g4, fun hp w args F hk ha => ?_⟩
    obtain rfl := hp p (by simp [ptrsK])
    obtain ⟨v1, v2, v3, rfl, rfl, rfl, rfl⟩ := ka3 ha
    exact mset_calls hk c v g3 g2 (by have := (can_iff g1).2.2; omega)
  · cases h
 | false =>
 rw [h5] at h
 cases h6 : Nat.beq f 286 with
 | true =>
  rw [h6] at h
  obtain rfl := beq_iff.1 h6
  simp only [cond_true, cond_false] at h
  split at h
  · rename_i p t i
    obtain ⟨g1, g2, a, g3, g4, g5⟩ := atR_ok h
    refine ⟨_, _, g5, fun hp w args F hk ha => ?_⟩
    obtain rfl := hp p (by simp [ptrsK])
    obtain ⟨v1, v2, v3, rfl, rfl, rfl, rfl⟩ := ka3 ha
    exact mat_calls hk t i a g3 g4 g2 g1
  · cases h
 | false =>
 rw [h6] at h
 simp only [cond_false] at h
 cases h
end Go.Proofs.YthnhilghjadigaaGreatDoor.Xi

/- Xi: a run on a maker is so. -/
namespace Go.Proofs.YthnhilghjadigaaGreatDoor.Xi
open Go Go.RowKit Go.Proofs.YthnhilghjadigaaGreatDoor.Ab
set_option linter.unusedVariables false
set_option linter.unusedSimpArgs false
def loopArgs (r : AV) (n : Int) : Option (Addr × Nat) := match r with
 | .lit (.pointer (some p)) => (match n with | .ofNat m => some (p, m) | _ => none)
 | _ => none
theorem loopArgs_ok {r : AV} {n : Int} {p : Addr} {m : Nat} (h : loopArgs r n = some (p, m)) : r = .lit (.pointer (some p)) ∧ n = (m : Int) := by
 unfold loopArgs at h
 split at h
 · split at h
   · injection h with h
     injection h with h1 h2
     subst h1 h2
     exact ⟨rfl, rfl⟩
   · cases h
 · cases h
def runK {γ : Type} : Nat → List Ev → List Nat → List Addr → KS → (List Nat → List Addr → KS → Option γ) → Option γ
 | 0, _, _, _, _, _ => none
 | f + 1, δ, ρ, ps, s, k => match δ with
  | [] => k ρ ps s
  | .call g args out :: l => (match pks ρ args with
   | some us => stepK g us s fun o s' => (match o with
    | some x => (match out with
     | .opq i => bif Nat.beq i (lenL ρ) then fL (ρ ++ [x]) fun ρ' => runK f l ρ' (ptrsK us ++ ps) s' k else none
     | _ => none)
    | none => (match out with
     | .tup [] => runK f l ρ (ptrsK us ++ ps) s' k
     | _ => none))
   | none => none)
  | .loop g r n i body :: l => (match loopArgs r n with
   | some (p, m) => bif Nat.beq g 291 && Nat.beq i (lenL ρ) then begR s m none fun s1 => fL (ρ ++ [s.used]) fun ρ1 => runK f body ρ1 (p :: ps) s1 fun ρ2 ps2 s2 => finR s2 s.depth (s.names + 2) none fun s' => runK f l ρ2 ps2 s' k else none
   | none => none)
  | .prim _ _ _ :: _ => none
theorem ext_at {ρ : List Nat} {x : Nat} {ρF : Nat → Value} (h : ExtN (ρ ++ [x]) ρF) : ρF (lenL ρ) = .int .i64 (x : Int) := h _ _ (by unfold lenL; simp)
theorem runK_ok {γ : Type} {b : MP} {G : Nat → Option Obj} {X : List Nat} {y : γ} : ∀ (f : Nat) {δ : List Ev} {ρ : List Nat} {ps : List Addr} {s : KS} {k : List Nat → List Addr → KS → Option γ}, runK f δ ρ ps s k = some y →
 ∃ ρ' ps' s', k ρ' ps' s' = some y ∧ (∃ τ, ρ' = ρ ++ τ) ∧ (∃ σ, ps' = σ ++ ps) ∧ ∀ ρF, (∀ p ∈ ps', p = ⟨b.a, 0, none⟩) → ExtN ρ' ρF → RunL (MakerM b G X) ρF δ s s'
 | 0, δ, ρ, ps, s, k, h => by unfold runK at h; cases h
 | f + 1, [], ρ, ps, s, k, h => ⟨ρ, ps, s, h, ⟨[], by simp⟩, ⟨[], by simp⟩, fun _ _ _ => rfl⟩
 | f + 1, .call g args out :: l, ρ, ps, s, k, h => by
  unfold runK at h
  simp only [] at h
  cases hu : pks ρ args with
  | none => rw [hu] at h; cases h
  | some us =>
   rw [hu] at h
   simp only [] at h
   obtain ⟨o, s1, hk, hc⟩ := stepK_ok (b := b) (R := kpX X) h
   cases o with
   | some x =>
    simp only [] at hk
    split at hk
    · rename_i i
      cases hi : Nat.beq i (lenL ρ) with
      | false => rw [hi] at hk; cases hk
      | true =>
       rw [hi] at hk
       obtain rfl := beq_iff.1 hi
       simp only [cond_true, fL_eq] at hk
       obtain ⟨ρ', ps', s', h1, ⟨τ, rfl⟩, ⟨σ, rfl⟩, h4⟩ := runK_ok (b := b) (G := G) (X := X) f hk
       refine ⟨_, _, s', h1, ⟨x :: τ, by simp⟩, ⟨σ ++ ptrsK us, by simp⟩, fun ρF hps hF => ⟨s1, ?_, h4 ρF hps hF⟩⟩
       show (MakerM b G X).step s g (args.map (EA.conc (E0 ρF))) (ρF (lenL ρ)) s1
       rw [ext_at hF.of_append]
       exact fun w xs F hkr hxs => hc (fun p hp => hps p (by simp [hp])) w xs F hkr (pks_ok hF.of_append.of_append hu hxs)
    · cases hk
   | none =>
    simp only [] at hk
    split at hk
    · obtain ⟨ρ', ps', s', h1, ⟨τ, rfl⟩, ⟨σ, rfl⟩, h4⟩ := runK_ok (b := b) (G := G) (X := X) f hk
      refine ⟨_, _, s', h1, ⟨τ, rfl⟩, ⟨σ ++ ptrsK us, by simp⟩, fun ρF hps hF => ⟨s1, ?_, h4 ρF hps hF⟩⟩
      exact fun w xs F hkr hxs => hc (fun p hp => hps p (by simp [hp])) w xs F hkr (pks_ok hF.of_append hu hxs)
    · cases hk
 | f + 1, .prim _ _ _ :: l, ρ, ps, s, k, h => by unfold runK at h; cases h
 | f + 1, .loop g r n i body :: l, ρ, ps, s, k, h => by
  unfold runK at h
  simp only [] at h
  cases hla : loopArgs r n with
  | none => rw [hla] at h; cases h
  | some q =>
   obtain ⟨p, m⟩ := q
   rw [hla] at h
   simp only [] at h
   obtain ⟨rfl, rfl⟩ := loopArgs_ok hla
   have hq := cond_some h
   clear h hla
   obtain ⟨hc, h⟩ := hq
   simp only [Bool.and_eq_true] at hc
   obtain ⟨hg, hi⟩ := hc
   have hg := beq_iff.1 hg
   have hi := beq_iff.1 hi
   obtain ⟨g1, g2, g3, g4, h⟩ := begR_ok h
   simp only [fL_eq] at h
   obtain ⟨ρ2, ps2, s2, h, ⟨τ, rfl⟩, ⟨σ, rfl⟩, hb⟩ := runK_ok (b := b) (G := G) (X := X) f h
   obtain ⟨g5, g6, h⟩ := finR_ok h
   obtain ⟨ρ', ps', s', h1, ⟨τ', rfl⟩, ⟨σ', rfl⟩, h4⟩ := runK_ok (b := b) (G := G) (X := X) f h
   refine ⟨_, _, s', h1, ⟨s.used :: (τ ++ τ'), by simp⟩, ⟨σ' ++ σ ++ [p], by simp⟩, fun ρF hps hF => ⟨s2.fin (s.names + 2), ?_, h4 ρF hps hF⟩⟩
   refine ⟨s.beg m, s2, ⟨hg, ?_, m, rfl, ?_, rfl, g1, g2, g3, g4⟩, hb ρF (fun q hq => hps q (List.mem_append_right _ hq)) hF.of_append, ⟨hg, rfl, g5, g6⟩⟩
   · rw [← hps p (by simp)]
     rfl
   · rw [hi]
     exact ext_at hF.of_append.of_append
end Go.Proofs.YthnhilghjadigaaGreatDoor.Xi

/- Xi: the calls of functions that are handed a maker, by runs of the kernel. -/
namespace Go.Proofs.YthnhilghjadigaaGreatDoor.Xi
open Go Go.RowKit Go.Proofs.YthnhilghjadigaaGreatDoor.Ab
set_option linter.unusedVariables false
set_option linter.unusedSimpArgs false
inductive KO where
 | one (x : Nat)
 | tup (l : List Nat)
 | arr (l : List Nat)
def intV (x : Nat) : Value := .int .i64 (x : Int)
def KO.val : KO → Value
 | .one x => intV x
 | .tup l => .tuple (l.map intV).toArray
 | .arr l => .agg (l.map intV).toArray
def pknL (ρ : List Nat) : List AV → Option (List Nat)
 | [] => some []
 | a :: l => match pkn ρ a, pknL ρ l with | some x, some xs => some (x :: xs) | _, _ => none
def poutK (ρ : List Nat) : AV → Option KO
 | .tup l => match pknL ρ l with | some xs => some (.tup xs) | none => none
 | .agg l => match pknL ρ l with | some xs => some (.arr xs) | none => none
 | a => match pkn ρ a with | some x => some (.one x) | none => none
mutual
def inbK (n : Nat) : AV → Bool
 | .lit _ => true
 | .opq i => Nat.blt i n
 | .ifc _ v => inbK n v
 | .agg cs => inbKL n cs
 | .tup vs => inbKL n vs
 | _ => false
def inbKL (n : Nat) : List AV → Bool
 | [] => true
 | v :: l => inbK n v && inbKL n l
end
def runMk (cx : Cx) (fuel : Nat) (f : FuncId) (args : List AV) (ins : List Nat) (s : KS) : Option (KO × KS × List Addr) :=
 match aCall cx fuel f args ⟨.nil, 0, lenL ins⟩ with
 | some (v, _, δ) => bif v.lt 0 && ltL 0 args && inbKL (lenL ins) args then runK fuel δ ins [] s fun ρ ps s' => (match poutK ρ v with | some o => some (o, s', ps) | none => none) else none
 | none => none
def getK (ρ : List Nat) : Env := E0 fun i => intV (ρ.getD i 0)
theorem pknL_ok {ρ : List Nat} {ρF : Nat → Value} (hF : ExtN ρ ρF) : ∀ {l : List AV} {xs : List Nat}, pknL ρ l = some xs → concL (E0 ρF) l = xs.map intV
 | [], xs, h => by unfold pknL at h; injection h with h; subst h; rfl
 | a :: l, xs, h => by
  unfold pknL at h
  cases h1 : pkn ρ a with
  | none => rw [h1] at h; cases h
  | some x =>
   cases h2 : pknL ρ l with
   | none => rw [h1, h2] at h; cases h
   | some ys =>
    rw [h1, h2] at h
    injection h with h
    subst h
    show a.conc (E0 ρF) :: concL (E0 ρF) l = _
    rw [pkn_ok hF h1, pknL_ok hF h2]
    rfl
theorem poutK_ok {ρ : List Nat} {ρF : Nat → Value} (hF : ExtN ρ ρF) {a : AV} {o : KO} (h : poutK ρ a = some o) : a.conc (E0 ρF) = o.val := by
 unfold poutK at h
 split at h
 · rename_i l
   cases hl : pknL ρ l with
   | none => rw [hl] at h; cases h
   | some xs =>
    rw [hl] at h
    injection h with h
    subst h
    show Value.tuple (concL (E0 ρF) l).toArray = _
    rw [pknL_ok hF hl]
    rfl
 · rename_i l
   cases hl : pknL ρ l with
   | none => rw [hl] at h; cases h
   | some xs =>
    rw [hl] at h
    injection h with h
    subst h
    show Value.agg (concL (E0 ρF) l).toArray = _
    rw [pknL_ok hF hl]
    rfl
 · cases hl : pkn ρ a with
   | none => rw [hl] at h; cases h
   | some x =>
    rw [hl] at h
    injection h with h
    subst h
    exact pkn_ok hF hl
mutual
theorem inbK_conc {ρ : List Nat} {ρF : Nat → Value} (hF : ExtN ρ ρF) : ∀ (a : AV), inbK (lenL ρ) a = true → a.conc (E0 ρF) = a.conc (getK ρ)
 | .lit v, _ => rfl
 | .opq i, h => by
  have hi : i < ρ.length := by have : Nat.blt i (lenL ρ) = true := h; rwa [blt_iff] at this
  show ρF i = intV (ρ.getD i 0)
  rw [hF i ρ[i] (List.getElem?_eq_getElem hi)]
  simp [List.getD, List.getElem?_eq_getElem hi, intV]
 | .ifc t v, h => by simp only [AV.conc]; rw [inbK_conc hF v h]
 | .agg cs, h => by simp only [AV.conc]; rw [inbKL_conc hF cs h]
 | .tup vs, h => by simp only [AV.conc]; rw [inbKL_conc hF vs h]
 | .ptr _ _, h => by cases h
 | .slc _ _ _ _, h => by cases h
 | .row _ _, h => by cases h
 | .fn _ _ _, h => by cases h
 | .vw _ _ _, h => by cases h
 | .vp _ _, h => by cases h
 | .rsl _ _ _, h => by cases h
theorem inbKL_conc {ρ : List Nat} {ρF : Nat → Value} (hF : ExtN ρ ρF) : ∀ (l : List AV), inbKL (lenL ρ) l = true → concL (E0 ρF) l = concL (getK ρ) l
 | [], _ => rfl
 | v :: l, h => by
  simp only [inbKL, Bool.and_eq_true] at h
  simp only [concL]
  rw [inbK_conc hF v h.1, inbKL_conc hF l h.2]
end
theorem maker_calls {b : MP} {cx : Cx} {fuel : Nat} {f : FuncId} {args : List AV} {ins : List Nat} {s s' : KS} {o : KO} {ps : List Addr} (hP : cx.P = Tryz.prog) (hmix : cx.P.follows .mixedOrders = true) (hmt : MtOk cx)
 (h : runMk cx fuel f args ins s = some (o, s', ps)) (hp : ∀ p ∈ ps, p = ⟨b.a, 0, none⟩) (w : World) {F : List Nat} (hk : KR w b s F) {vs : List Value} (hvs : concL (getK ins) args = vs) (hvn : ∀ i, cx.vw i = none := by intro i; rfl) :
 Calls Tryz.prog f vs.toArray w (MkP o.val s' b F w) := by
 obtain ⟨P, ev, lp, mt, br, vw⟩ := cx
 obtain rfl : P = Tryz.prog := hP
 unfold runMk at h
 cases hc : aCall ⟨Tryz.prog, ev, lp, mt, br, vw⟩ fuel f args ⟨.nil, 0, lenL ins⟩ with
 | none => rw [hc] at h; cases h
 | some q =>
  obtain ⟨v, g', δ⟩ := q
  rw [hc] at h
  simp only [] at h
  obtain ⟨hkk, h⟩ := cond_some h
  simp only [Bool.and_eq_true] at hkk
  obtain ⟨⟨k1, k2⟩, k3⟩ := hkk
  obtain ⟨ρ, ps', s1, h1, ⟨τ, hτ⟩, ⟨σ, hσ⟩, hrun⟩ := runK_ok (b := b) (G := fun g => w.heap[g]?) (X := []) fuel h
  cases ho : poutK ρ v with
  | none => rw [ho] at h1; cases h1
  | some o' =>
   rw [ho] at h1
   injection h1 with h1; injection h1 with h1 h2; injection h2 with h2 h3
   subst h1 h2 h3
   have hF : ExtN ρ (getK ρ).ρ := fun i x hx => by
    show intV (ρ.getD i 0) = _
    simp [List.getD, hx, intV]
   have hone : ∀ i, ((getK ρ).ρ i).oneCell' = true := fun i => rfl
   obtain ⟨_, hcall⟩ := aCall_ok (M := MakerM b (fun g => w.heap[g]?) []) (ρv := (getK ρ).ρ) hmix hmt hone (VwOk.none hvn) fuel |>.2 f args ⟨.nil, 0, lenL ins⟩ v g' δ hc
   have hrep : Rep (MakerM b (fun g => w.heap[g]?) []) (getK ρ) s (⟨.nil, 0, lenL ins⟩ : G).at 0 w := ⟨⟨⟨F, hk, fun g hg => by cases hg⟩, fun _ _ => rfl, fun g hg => by cases hg⟩, (fun b B hb => by have := at_lt hb; cases this), (fun b b' B B' hb => by have := at_lt hb; cases this), (fun b B hb => by have := at_lt hb; cases this), (fun b B hb => at_lt hb)⟩
   have hcl := hcall (getK ρ) s s1 w rfl hrep (fun u hu => by
    unfold AV.lt
    rw [blt_iff, pow_eq]
    refine lt_of_bits fun q hq => ?_
    have := ltL_bit k2 (mskL_mem hu hq)
    omega) (hrun _ hp hF)
   have hFi : ExtN ins (getK ρ).ρ := by subst hτ; exact hF.of_append
   have eargs : concL (getK ρ) args = vs := by
    rw [← hvs]
    exact inbKL_conc hFi args k3
   rw [eargs] at hcl
   refine hcl.mono ?_
   rintro e w' ⟨E', rfl, hw⟩
   obtain ⟨⟨F', hk', _⟩, hG', hS'⟩ := hw.rep.mach
   refine ⟨?_, ?_, F', fun k hkF => ?_, hk'⟩
   · rw [conc_zero (E := getK ρ) (E' := E') k1 hw.rho]
     have := poutK_ok hF ho
     rw [show v.conc (getK ρ) = o'.val from this]
   · have hfr := hw.fr
     refine chg_same (X := []) (hfr.more fun k _ hkd => ?_) (fun _ _ => rfl) hG' (fun g hg => by cases hg) hS'
     rcases hkd with hkd | ⟨b, B, hb, _⟩
     · have : k ∈ fpK b s w ++ kpX [] := hkd
       rw [fpK_eq hk] at this
       exact this
     · have := at_lt hb; cases this
   · have hgr := hw.grow k (by show k ∈ fpK b s1 w' ++ _; rw [fpK_eq hk']; exact List.mem_append_left _ hkF)
     rcases hgr with hgr | hgr
     · have : k ∈ fpK b s w ++ kpX [] := hgr
       rw [fpK_eq hk] at this
       rcases List.mem_append.1 this with h1 | h1
       · exact .inl h1
       · have := List.mem_range.1 (show k ∈ List.range 8 by simpa [kpX] using h1); have := hk'.high k hkF; omega
     · exact .inr hgr
end Go.Proofs.YthnhilghjadigaaGreatDoor.Xi

/- Xi: what a run on a maker sees of the program. -/
namespace Go.Proofs.YthnhilghjadigaaGreatDoor.Xi
open Go Go.RowKit Go.Proofs.YthnhilghjadigaaGreatDoor.Ab
set_option linter.unusedVariables false
theorem mk_Const (a : Addr) (w : World) : (method 451 46 (.pointer (some a)) "Const").run Tryz.prog w = .ok (288, .pointer (some a)) w := by kernel_rfl
theorem mk_Do (a : Addr) (w : World) : (method 451 46 (.pointer (some a)) "Do").run Tryz.prog w = .ok (289, .pointer (some a)) w := by kernel_rfl
theorem mk_Cell (a : Addr) (w : World) : (method 451 46 (.pointer (some a)) "Cell").run Tryz.prog w = .ok (287, .pointer (some a)) w := by kernel_rfl
theorem mk_Get (a : Addr) (w : World) : (method 451 46 (.pointer (some a)) "Get").run Tryz.prog w = .ok (290, .pointer (some a)) w := by kernel_rfl
theorem mk_Set (a : Addr) (w : World) : (method 451 46 (.pointer (some a)) "Set").run Tryz.prog w = .ok (292, .pointer (some a)) w := by kernel_rfl
theorem mk_At (a : Addr) (w : World) : (method 451 46 (.pointer (some a)) "At").run Tryz.prog w = .ok (286, .pointer (some a)) w := by kernel_rfl
theorem mk_Table (a : Addr) (w : World) : (method 451 46 (.pointer (some a)) "Table").run Tryz.prog w = .ok (326, .pointer (some a)) w := by kernel_rfl
theorem mk_Loop (a : Addr) (w : World) : (method 451 46 (.pointer (some a)) "Loop").run Tryz.prog w = .ok (291, .pointer (some a)) w := by kernel_rfl
def mtK (n : String) : Option FuncId := match n with
 | "Const" => some 288
 | "Do" => some 289
 | "Cell" => some 287
 | "Get" => some 290
 | "Set" => some 292
 | "Loop" => some 291
 | "At" => some 286
 | "Table" => some 326
 | _ => none
set_option maxRecDepth 100000 in
theorem types_fuel : Tryz.prog.types.size + Made.depth = 451 := by kernel_rfl
set_option maxRecDepth 100000 in
theorem mtK_ok {n : String} {g : FuncId} (h : mtK n = some g) (a : Addr) (w : World) : (method (Tryz.prog.types.size + Made.depth) 46 (.pointer (some a)) n).run Tryz.prog w = .ok (g, .pointer (some a)) w := by
 rw [types_fuel]
 unfold mtK at h
 split at h
 · obtain rfl := Option.some.inj h
   exact mk_Const a w
 · obtain rfl := Option.some.inj h
   exact mk_Do a w
 · obtain rfl := Option.some.inj h
   exact mk_Cell a w
 · obtain rfl := Option.some.inj h
   exact mk_Get a w
 · obtain rfl := Option.some.inj h
   exact mk_Set a w
 · obtain rfl := Option.some.inj h
   exact mk_Loop a w
 · obtain rfl := Option.some.inj h
   exact mk_At a w
 · obtain rfl := Option.some.inj h
   exact mk_Table a w
 · cases h
noncomputable def cxK : Cx where
 P := Tryz.prog
 ev := fun f _ nv => bif Nat.beq f 292 then some (.tup [], 0) else bif Nat.beq f 289 || (Nat.beq f 288 || (Nat.beq f 287 || (Nat.beq f 290 || (Nat.beq f 286 || Nat.beq f 326)))) then some (.opq nv, 1) else none
 lp := fun f => Nat.beq f 291
 mt := fun t n => bif Nat.beq t 46 then mtK n else none
 br := fun _ => none
set_option maxRecDepth 100000 in
theorem cxK_mt : MtOk cxK := fun t n g h a w => by
 have h' : (bif Nat.beq t 46 then mtK n else none) = some g := h
 cases ht : Nat.beq t 46 with
 | false => rw [ht] at h'; cases h'
 | true =>
  rw [ht] at h'
  rw [beq_iff] at ht
  subst ht
  exact mtK_ok h' a w
def wkK (b : MP) : AV := .agg [.ifc 46 (.lit (.pointer (some ⟨b.a, 0, none⟩)))]
set_option maxRecDepth 100000 in
theorem cxK_calls {b : MP} {fuel : Nat} {f : FuncId} {args : List AV} {ins : List Nat} {s s' : KS} {o : KO} {m : Nat} (h : runMk cxK fuel f args ins s = some (o, s', List.replicate m ⟨b.a, 0, none⟩)) (w : World) {F : List Nat} (hk : KR w b s F) {vs : List Value} (hvs : concL (getK ins) args = vs) :
 Calls Tryz.prog f vs.toArray w (MkP o.val s' b F w) :=
 maker_calls (cx := cxK) rfl (show Tryz.prog.follows .mixedOrders = true by kernel_rfl) cxK_mt h (fun p hp => (List.mem_replicate.1 hp).2) w hk hvs
end Go.Proofs.YthnhilghjadigaaGreatDoor.Xi

/- A kernel's image: what all have in common. -/
namespace Go.Proofs.YthnhilghjadigaaGreatDoor
open Go Go.RowKit Go.Deep Go.Maps Go.Proofs.YthnhilghjadigaaGreatDoor.Ab Go.Proofs.YthnhilghjadigaaGreatDoor.Xi
set_option linter.unusedVariables false
attribute [local go_sem] Oper.semAt_some
def stOf (r : Option (KO × KS × List Addr)) : KS := match r with | some (_, s, _) => s | none => ks0
set_option maxRecDepth 100000 in
theorem work_calls (b : Nat) (w : World) : Calls Tryz.prog 19 #[.pointer (some ⟨b, 0, none⟩)] w fun e w' => e = .returned (.agg #[.iface 46 (.pointer (some ⟨b, 0, none⟩))]) ∧ Chg w w' [] := by
 go_enter Tryz.func19, Tryz.ntmps19
 go_wp2
 have hb := Blk.new w 55 [.iface 46 (.pointer (some ⟨b, 0, none⟩))]
 refine bodyPost_ret (v := .agg #[.iface 46 (.pointer (some ⟨b, 0, none⟩))]) (results_cell_row rfl _ _ w.heap.size 55 _ (0, 0) _ rfl hb Tryz.underlying55 rfl (by kernel_rfl)) rfl ⟨rfl, (Chg.refl w []).alloc _⟩
def marksOf (r : St) : List Mk := match r with | .done _ _ _ _ M => M.reverse | _ => []
def nil5 : List Value := [.slice none 0 0, .slice none 0 0, .slice none 0 0, .slice none 0 0, .slice none 0 0]
theorem ImgAt.far {w w' : World} {v : Value} {code data : List Int} {sec : List Bool} {ins outs : List Nat} {q : Nat} (h : ImgAt w v code data sec ins outs) (hb : Blk w q 29 nil5) (hc : Chg w w' [q]) : ImgAt w' v code data sec ins outs := by
 obtain ⟨c, d, se, i, o, rfl, h1, h2, h3, h4, h5⟩ := h
 refine ⟨c, d, se, i, o, rfl, h1.chg0 hc (sl_far hb h1 ?_), h2.chg0 hc (sl_far hb h2 ?_), h3.chg0 hc (sl_far hb h3 ?_), h4.chg0 hc (sl_far hb h4 ?_), h5.chg0 hc (sl_far hb h5 ?_)⟩
 all_goals
  intro u hu hx
  obtain ⟨y, _, rfl⟩ := List.mem_map.1 hx
  simp [nil5] at hu
end Go.Proofs.YthnhilghjadigaaGreatDoor
