/- The document's builder: Finish. -/
import Derived.Test.YtjfnpokebaagmaaGreatDoorRbG
namespace Go.Proofs.YtjfnpokebaagmaaGreatDoor
open Go.RowKit Go.Deep Go.Maps
set_option linter.unusedVariables false
attribute [local go_sem] Oper.semAt_some
def RFinP (r : List Int × Nm × Int) (w : World) (e : Ending) (w' : World) : Prop := FinP r w e w'
theorem lastL_zero (k : Int) : lastL [] k = none := rfl
theorem lastL_step {fx : List (Int × Int)} {j : Nat} {p q k : Int} (h : fx[j]? = some (p, q)) : lastL (fx.take (j + 1)) k = if p = k then some q else lastL (fx.take j) k := by
  rw [List.take_add_one, h]
  exact lastL_snoc (fx.take j) (p, q) k
set_option maxRecDepth 100000 in
set_option maxHeartbeats 2000000 in
theorem rfinish_calls {w : World} {b : Nat} {bm : BM} {F : List Nat} (h : RB w b bm F) (hf : Fine bm) (hl : bm.code.length ≤ 16384) (hu : bm.uses.length ≤ 100000) (hd : bm.defs.length ≤ 100000) :
    Calls Tryz.prog 9 #[.pointer (some ⟨b, 0, none⟩)] w (FinP (finM bm) w) := by
  have hres := rresolve_calls h (by omega) (by omega)
  obtain ⟨cv, dv, uv, hp, rfl⟩ := h
  have HP := hide hp
  have HF := hide hf
  have c0 := hp.blk.cell' (i := 0) rfl
  clear hp hf
  go_enter Tryz.func9, Tryz.ntmps9
  go_wp2_with (go_at_call 36; refine hres.mono ?_)
  rintro e w1 ⟨hc, hr⟩
  have HC := hide hc
  have HP1 := hide (HP.out.chg hc (by simp))
  clear hres
  rcases hr with ⟨s, hr, rfl⟩ | ⟨fx, v, hr, rfl, ho⟩
  · have HFE := hide (finM_err hr)
    clear hc hr c0
    go_wp2
    refine bodyPost_ret (results_tmp3 rfl _ _ _) rfl ?_
    rw [HFE.out]
    exact ⟨HC.out, .slice none 0 0, rfl, ⟨none, 0, rfl, Nat.le_refl _, fun h0 => absurd h0 (by simp [u32s])⟩⟩
  · have HFE := hide (finM_ok hr hl)
    have hfine := fixM_fine HF.out.1 bm.uses fx (fun p hp => (HF.out.2 p hp).1) hr
    have HFX := hide hfine.2
    have hfl : fx.length ≤ 100000 := by rw [hfine.1]; exact hu
    have c1 := HP1.out.blk.cell' (i := 0) rfl
    obtain ⟨A, c, hAc, hx⟩ := row_open ho
    have HX := hide hx
    obtain ⟨A2, c2, hA2, hx2⟩ := row_open HP1.out.rc
    have HX2 := hide hx2
    have hbl := HP1.out.blk.lt
    subst hAc
    rw [hA2] at c1
    clear hc hr c0 ho hfine hx hx2 hA2
    go_wp2
    go_loopw [8, 9] (fun v i wr => ∃ k : Nat, k ≤ bm.code.length ∧ i = .int .i64 k ∧ Hid (Chg w1 wr []) ∧ Hid (wr.ownsRow w1.heap.size 62 1 v k (u32s ((codeM fx bm.code).take k)))) (fun _ i _ => bm.code.length - (intOf i).toNat)
    case atStart => exact ⟨0, Nat.zero_le _, rfl, hide (Chg.refl _ _), hide (World.ownsRow_nil _ _ _ _)⟩
    case round =>
      obtain ⟨k2, hk2, rfl, HR2, HO2⟩ := hrel
      have d1 := HR2.out.cell c1 (by simp)
      by_cases hlt2 : k2 < bm.code.length
      · obtain ⟨g, hg, hgl, hgb, hcells⟩ := HX2.out (by omega)
        subst hg
        obtain ⟨x, hsx⟩ : ∃ x, bm.code[k2]? = some x := ⟨bm.code[k2], by simp [hlt2]⟩
        obtain ⟨q0, q1, q2, q3, q4⟩ := five_at bm.code k2 x hsx
        have ca0 := HR2.out.cell (hcells _ _ q0) (by simp)
        have ca1 := HR2.out.cell (hcells _ _ q1) (by simp)
        have ca2 := HR2.out.cell (hcells _ _ q2) (by simp)
        have ca3 := HR2.out.cell (hcells _ _ q3) (by simp)
        have ca4 := HR2.out.cell (hcells _ _ q4) (by simp)
        have HT := hide (codeM_take (fx := fx) hsx)
        obtain ⟨op, d, a, b1, n1⟩ := x
        have hgr : g < wr.heap.size := by have := HR2.out.size; omega
        obtain ⟨i0, hi, hz0, hz1, hz2⟩ := info_parts info_u32
        obtain ⟨Ao, co, rfl⟩ := own_slice HO2.out
        clear hcells hsx q0 q1 q2 q3 q4
        have hC1 : Chg w1 (wr.alloc (.cells #[.int .i64 op, .int .i64 d, .int .i64 a, .int .i64 b1, .int .i64 n1] 25)) [] := HR2.out.alloc _
        have HC1 := hide hC1
        have HB1 := hide (Blk.new wr 25 [.int .i64 op, .int .i64 d, .int .i64 a, .int .i64 b1, .int .i64 n1])
        clear hC1
        go_wp2
        obtain ⟨wq, hwq⟩ : ∃ wq, wq = wr := ⟨wr, rfl⟩
        subst hwq
        go_loopw [11] (fun i wy => ∃ j : Nat, j ≤ fx.length ∧ i = .int .i64 j ∧ Hid (Chg wq wy []) ∧ Hid (Blk wy wq.heap.size 25 [.int .i64 op, .int .i64 d, .int .i64 a, .int .i64 b1, .int .i64 ((lastL (fx.take j) k2).getD n1)])) (fun i _ => fx.length - (intOf i).toNat)
        case atStart => exact ⟨0, Nat.zero_le _, rfl, hide ((Chg.refl wq []).alloc _), by simpa [lastL_zero] using HB1⟩
        case round =>
          obtain ⟨j, hj, rfl, HRj, HBj⟩ := hrel
          by_cases hltj : j < fx.length
          · obtain ⟨g2, rfl, hgl2, hgb2, hcl2⟩ := HX.out (by omega)
            obtain ⟨⟨p, q⟩, hsp⟩ : ∃ x, fx[j]? = some x := ⟨fx[j], by simp [hltj]⟩
            obtain ⟨q0, q1⟩ := pair_at (fun p : Int × Int => .int .i64 p.1) (fun p => .int .i64 p.2) fx j (p, q) hsp
            have cc := HRj.out.cell (HR2.out.cell (hcl2 _ _ q0) (by simp)) (by simp)
            have cd := HRj.out.cell (HR2.out.cell (hcl2 _ _ q1) (by simp)) (by simp)
            have HLS := hide (lastL_step (k := k2) hsp)
            have hfz := HBj.out.frozen 4
            have hbj := HBj.out.lt
            have HB4 := hide (HBj.out.set_ 4 (.int .i64 q))
            have HC4 := hide (HRj.out.setCell ⟨wq.heap.size, 4, none⟩ (.int .i64 q) (.inr (Nat.le_refl _)))
            have e4 := HBj.out.cell' (i := 4) rfl
            clear hcl2 hsp q0 q1
            by_cases hpk : p = k2
            · have HPK := hide hpk
              have hx : (p == (k2 : Int)) = true := beq_iff_eq.2 hpk
              clear hpk
              go_wp2
              go_roundw
              case rel =>
                refine ⟨j + 1, by omega, by go_num, HC4, ?_⟩
                have hq := HLS.out
                rw [if_pos HPK.out] at hq
                rw [hq]
                exact HB4
              case measure => simp [intOf]; omega
            · have HPK := hide hpk
              have hx : (p == (k2 : Int)) = false := beq_eq_false_iff_ne.2 hpk
              clear hpk
              go_wp2
              go_roundw
              case rel =>
                refine ⟨j + 1, by omega, by go_num, HRj, ?_⟩
                have hq := HLS.out
                rw [if_neg HPK.out] at hq
                rw [hq]
                exact HBj
              case measure => simp [intOf]; omega
          · have hj2 : j = fx.length := by omega
            subst hj2
            have hb := HBj.out
            rw [List.take_length] at hb
            have hpt : patched fx k2 ⟨op, d, a, b1, n1⟩ = ⟨op, d, a, b1, (lastL fx k2).getD n1⟩ := by
              unfold patched
              cases lastL fx k2 <;> rfl
            rw [hpt] at HT
            generalize (lastL fx k2).getD n1 = nn at *
            have x0 := hb.cell' (i := 0) rfl
            have x1 := hb.cell' (i := 1) rfl
            have x2 := hb.cell' (i := 2) rfl
            have x3 := hb.cell' (i := 3) rfl
            have x4 := hb.cell' (i := 4) rfl
            have hen := fun W => refenc_any ⟨op, d, a, b1, nn⟩ W
            unfold insVal at hen
            clear hpt hb HBj HB1
            go_wp2_with fail
            go_at_call 37
            refine (hen _).mono ?_
            rintro e w4 ⟨⟨z4, rfl⟩, hc4⟩
            have hc24 : Chg wq w4 [] := HRj.out.trans hc4 (by simp)
            have HC4 := hide hc24
            have HO4 := hide (own_chgD HO2.out hc24 (fun g hg => by simp))
            clear hc4 hc24 hen x0 x1 x2 x3 x4
            generalize encI _ = ee at HT ⊢
            go_wp2_with (at_builtin; refine wpList_append_own _ rfl _ _ 41 rfl w1.heap.size 62 i0 (.int .u32 0) 1 4 Tryz.underlying41 hi hz0 hz1 hz2 rfl (by decide) _ k2 _ rfl (HO4.out.alloc _) ⟨w4.heap.size, 0, none⟩ 1 1 [.int .u32 ee] rfl rfl ?c1 ?c2 ?c3 ?c4 ?c5 ?_)
            case c1 =>
              intro j u hj
              match j, hj with
              | 0, hj => simp at hj; subst hj; simp [Addr.add]
            case c2 => intro u hu; simp at hu; subst hu; rfl
            case c3 => unfold maxLen; omega
            case c4 => omega
            case c5 => have := HR2.out.size; have := HC4.out.size; simp; omega
            intro v' w5 hown' hgrow _
            have hchg45 : Chg w4 w5 (Value.slice Ao k2 co).ownBlock.toList := ((Chg.refl w4 _).alloc _).trans (Chg.of_grown hgrow (fun k hk => .inl (by simp [hk]))) (fun k hk => .inl hk)
            have hC5 : Chg w1 w5 [] := (HR2.out.trans HC4.out (by simp)).trans hchg45 (fun k hk => .inr (by have := (HO4.out.lt k (Option.mem_toList.1 hk)).1; exact this))
            have HC5 := hide hC5
            have HO5 := hide hown'
            obtain ⟨A6, c6, rfl⟩ := own_slice hown'
            clear hown' hgrow hchg45 hC5
            go_wp2
            go_roundw
            case rel =>
              refine ⟨k2 + 1, by omega, by go_num, HC5, ?_⟩
              rw [HT.out, u32s_snoc]
              exact HO5
            case measure => simp [intOf]; omega
      · have hk3 : k2 = bm.code.length := by omega
        subst hk3
        have ho2 := HO2.out
        rw [List.take_of_length_le (by rw [codeM_len]; omega)] at ho2
        have HO3 := hide ho2
        obtain ⟨A6, c6, rfl⟩ := own_slice ho2
        clear ho2 HO2
        go_wp2
        refine bodyPost_ret (results_tmp3 rfl _ _ _) rfl ?_
        rw [HFE.out]
        exact ⟨HC.out.trans HR2.out (by simp), _, rfl, Sl.own HO3.out⟩
end Go.Proofs.YtjfnpokebaagmaaGreatDoor
