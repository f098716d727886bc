/- The program's builder: Finish. -/
import Derived.Test.YtjfnpokebaagmaaGreatDoorPbF
import Derived.Test.YtjfnpokebaagmaaGreatDoorBL1
namespace Go.Proofs.YtjfnpokebaagmaaGreatDoor
open Go.RowKit Go.Deep Go.Maps
set_option linter.unusedVariables false
attribute [local go_sem] Oper.semAt_some
def Fine (bm : BM) : Prop := (∀ p ∈ bm.defs, 0 ≤ p.2 ∧ p.2 ≤ 1000000) ∧ (∀ p ∈ bm.uses, (0 ≤ p.2 ∧ p.2 ≤ 1000000) ∧ p.1.length ≤ 1000000)
theorem findL_mem {l : List (Nm × Int)} {s : Nm} {q : Int} (h : findL l s = some q) : ∃ p ∈ l, p.2 = q := by
 unfold findL at h
 cases hf : l.find? (fun p => p.1 == s) with
 | none => rw [hf] at h; simp at h
 | some p => rw [hf] at h; simp at h; exact ⟨p, List.mem_of_find?_eq_some hf, h⟩
theorem fixM_fine {defs : List (Nm × Int)} (hd : ∀ p ∈ defs, 0 ≤ p.2 ∧ p.2 ≤ 1000000) : ∀ (uses : List (Nm × Int)) (fx : List (Int × Int)), (∀ p ∈ uses, 0 ≤ p.2 ∧ p.2 ≤ 1000000) → fixM defs uses = .ok fx → fx.length = uses.length ∧ ∀ x ∈ fx, (0 ≤ x.1 ∧ x.1 ≤ 1000000) ∧ 0 ≤ x.2 ∧ x.2 ≤ 1000000
 | [], fx, _, h => by
  simp only [fixM, Except.ok.injEq] at h
  subst h
  exact ⟨rfl, by simp⟩
 | (s, p) :: r, fx, hu, h => by
  cases hf : findL defs s with
  | none => rw [fixM_none hf] at h; cases h
  | some q =>
   rw [fixM_some hf] at h
   cases hr : fixM defs r with
   | error e => rw [hr] at h; cases h
   | ok l =>
    rw [hr] at h
    simp only [Except.ok.injEq] at h
    subst h
    obtain ⟨h1, h2⟩ := fixM_fine hd r l (fun p hp => hu p (List.mem_cons_of_mem _ hp)) hr
    refine ⟨by simp [h1], fun x hx => ?_⟩
    rcases List.mem_cons.1 hx with rfl | hx
    · obtain ⟨d, hd1, hd2⟩ := findL_mem hf
      have := hd d hd1
      rw [hd2] at this
      exact ⟨hu (s, p) (List.mem_cons_self ..), this⟩
    · exact h2 x hx
def mapF (l : List (Int × Int)) : Lit → Option Int
 | .int .i64 k => lastL l k
 | _ => none
theorem lastL_snoc (l : List (Int × Int)) (p : Int × Int) (k : Int) : lastL (l ++ [p]) k = if p.1 = k then some p.2 else lastL l k := by
 unfold lastL
 rw [List.foldl_append]
 rfl
open Classical in
theorem mapF_put (l : List (Int × Int)) (p : Int × Int) : putF (mapF l) (.int .i64 p.1) p.2 = mapF (l ++ [p]) := by
 funext k
 unfold putF
 cases k with
 | int q k =>
  cases q with
  | i64 =>
   show (if Lit.int .i64 k = Lit.int .i64 p.1 then some p.2 else lastL l k) = lastL (l ++ [p]) k
   rw [lastL_snoc]
   by_cases e : p.1 = k
   · rw [if_pos e, if_pos (by rw [e])]
   · rw [if_neg e, if_neg (by simpa using fun h => e h.symm)]
  | _ => rw [if_neg (by simp)]; rfl
 | _ => rw [if_neg (by simp)]; rfl
theorem keyed_int : Keyed Tryz.prog 3 := int_keyed Tryz.underlying3
theorem wf64 {k : Int} (h0 : 0 ≤ k) (h1 : k ≤ 1000000) : (Lit.int .i64 k).wf = true := by simp [Lit.wf, IntKind.min, IntKind.max, IntKind.signed, IntKind.bits]; omega
theorem key_int {k : Int} (h0 : 0 ≤ k) (h1 : k ≤ 1000000) : keyOf Tryz.prog 3 (.int .i64 k) = some (.int .i64 k) := keyOf_int_mk Tryz.underlying3 (wf64 h0 h1)
def u32s (l : List Int) : List Value := l.map (Value.int .u32)
theorem u32s_snoc (l : List Int) (x : Int) : u32s (l ++ [x]) = u32s l ++ [.int .u32 x] := by simp [u32s]
theorem info_u32 : (Tryz.prog.info? 62).map (fun i => (i.zero, i.size, i.bytes)) = some (some (.int .u32 0), 1, 4) := by kernel_rfl
theorem enc_any (i : Ins5) (w : World) : Calls Tryz.prog 35 #[insVal i] w fun e w' => (∃ z, e = .returned (.tuple #[.int .u32 (encI i), .int .i64 z])) ∧ Chg w w' [] := by
 obtain ⟨op, d, a, b, n⟩ := i
 by_cases h : chk op d a b n = 0
 · refine (encode_good op d a b n w h).mono ?_
   rintro e w' ⟨rfl, hc⟩
   have he : encI ⟨op, d, a, b, n⟩ = encK op d a b n 4 := by unfold encI chkI; rw [if_pos h]
   rw [he]
   exact ⟨⟨_, rfl⟩, hc⟩
 · refine (encode_bad op d a b n w h).mono ?_
   rintro e w' ⟨rfl, hc⟩
   have he : encI ⟨op, d, a, b, n⟩ = 0 := by unfold encI chkI; rw [if_neg h]
   rw [he]
   exact ⟨⟨_, rfl⟩, hc⟩
theorem five_at : ∀ (l : List Ins5) (k : Nat) (x : Ins5), l[k]? = some x → (codeCells l)[k * 5]? = some (.int .i64 x.op) ∧ (codeCells l)[k * 5 + 1]? = some (.int .i64 x.d) ∧ (codeCells l)[k * 5 + 2]? = some (.int .i64 x.a) ∧ (codeCells l)[k * 5 + 3]? = some (.int .i64 x.b) ∧ (codeCells l)[k * 5 + 4]? = some (.int .i64 x.n)
 | [], k, x, e => by simp at e
 | y :: l, 0, x, e => by simp at e; subst e; exact ⟨rfl, rfl, rfl, rfl, rfl⟩
 | y :: l, k + 1, x, e => by
  have := five_at l k x (by simpa using e)
  have hc : codeCells (y :: l) = insCells y ++ codeCells l := rfl
  rw [hc, show (k + 1) * 5 = k * 5 + 5 by omega]
  exact this
theorem codeM_take {fx : List (Int × Int)} {code : List Ins5} {k : Nat} {x : Ins5} (h : code[k]? = some x) : (codeM fx code).take (k + 1) = (codeM fx code).take k ++ [encI (patched fx k x)] := by
 rw [List.take_add_one]
 congr 1
 unfold codeM
 rw [List.getElem?_mapIdx, h]
 rfl
theorem codeM_len (fx : List (Int × Int)) (code : List Ins5) : (codeM fx code).length = code.length := by simp [codeM]
def FinP (r : List Int × Nm × Int) (w : World) (e : Ending) (w' : World) : Prop := Chg w w' [] ∧ ∃ v, e = .returned (.tuple #[v, strV r.2.1, .int .i64 r.2.2]) ∧ Sl w' v (u32s r.1)
theorem mapF_nil : (fun _ => none : Lit → Option Int) = mapF [] := by
 funext k
 cases k with
 | int q k => cases q <;> rfl
 | _ => rfl
theorem mapF_step {fx : List (Int × Int)} {k : Nat} {p q : Int} (h : fx[k]? = some (p, q)) : putF (mapF (fx.take k)) (.int .i64 p) q = mapF (fx.take (k + 1)) := by
 rw [List.take_add_one, h]
 exact mapF_put (fx.take k) (p, q)
theorem finM_err {bm : BM} {s : Nm} (h : fixM bm.defs bm.uses = .error s) : finM bm = ([], s, 10) := by unfold finM; rw [h]
theorem finM_ok {bm : BM} {fx : List (Int × Int)} (h : fixM bm.defs bm.uses = .ok fx) (hl : bm.code.length ≤ 16384) : finM bm = (codeM fx bm.code, [], 0) := by unfold finM; rw [h]; simp only []; rw [if_neg (by omega)]
set_option maxRecDepth 100000 in
set_option maxHeartbeats 2000000 in
theorem finish_calls {w : World} {b : Nat} {bm : BM} {F : List Nat} (h : PB w b bm F) (hf : Fine bm) (hl : bm.code.length ≤ 16384) (hu : bm.uses.length ≤ 100000) (hE : ErT w) :
 Calls Tryz.prog 8 #[.pointer (some ⟨b, 0, none⟩)] w (FinP (finM bm) w) := by
 have hlv := h.live
 obtain ⟨t, m, cv, uv, z, hp, rfl, hz⟩ := h
 have hres := resolve_calls hp.tab (fun p hp => (hf.2 p hp).2) (by omega) hE
 have HP := hide hp
 have HF := hide hf
 have c0 := hp.blk.cell' (i := 0) rfl
 clear hp hf hE hz
 go_enter Tryz.func8, Tryz.ntmps8
 go_wp2_with (first | (go_at_call 33; refine hlv.mono ?_; rintro e w1 ⟨rfl, rfl⟩) | (go_at_call 34; refine hres.mono ?_))
 rintro e w1 ⟨hc, hr⟩
 have HC := hide hc
 have HP1 := hide (HP.out.chg hc (by simp))
 clear hres
 rcases hr with ⟨s, hr, rfl⟩ | ⟨fx, v, hr, rfl, ho⟩
 · have HFE := hide (finM_err hr)
   clear hc hr c0 hlv
   go_wp2
   refine bodyPost_ret (results_tmp3 rfl _ _ _) rfl ?_
   rw [HFE.out]
   exact ⟨HC.out, .slice none 0 0, rfl, ⟨none, 0, rfl, Nat.le_refl _, fun h0 => absurd h0 (by simp [u32s])⟩⟩
 · have HFE := hide (finM_ok hr hl)
   have hfine := fixM_fine HF.out.1 bm.uses fx (fun p hp => (HF.out.2 p hp).1) hr
   have HFX := hide hfine.2
   have hfl : fx.length ≤ 100000 := by rw [hfine.1]; exact hu
   have c1 := HP1.out.blk.cell' (i := 1) rfl
   have HO := hide ho
   have HRC := hide HP1.out.row
   obtain ⟨A, c, hAc, hx⟩ := row_open ho
   have HX := hide hx
   obtain ⟨A2, c2, hA2, hx2⟩ := row_open HP1.out.row
   have HX2 := hide hx2
   have hbl := HP1.out.blk.lt
   subst hAc
   rw [hA2] at c1
   have hmm := @run_makeMap Tryz.prog
   clear hc hr c0 hlv ho hfine hx hx2 hA2
   have hM0 : MapI (w1.alloc (.map #[] 0)) 3 w1.heap.size 0 (mapF []) := by rw [← mapF_nil]; exact MapI.made w1 3
   have HM0 := hide hM0
   clear hM0
   go_wp2
   go_loopw [43] (fun i wr => ∃ k : Nat, k ≤ fx.length ∧ i = .int .i64 k ∧ Hid (Chg w1 wr []) ∧ ∃ n : Nat, n ≤ k ∧ Hid (MapI wr 3 w1.heap.size n (mapF (fx.take k)))) (fun i _ => fx.length - (intOf i).toNat)
   case atStart => exact ⟨0, Nat.zero_le _, rfl, hide ((Chg.refl w1 []).alloc _), 0, Nat.le_refl _, by simpa using HM0⟩
   case round =>
    obtain ⟨k, hk, rfl, HR, n, hn, HM⟩ := hrel
    by_cases hlt : k < fx.length
    · obtain ⟨g, rfl, hgl, hgb, hcells⟩ := HX.out (by omega)
      obtain ⟨⟨p, q⟩, hsp⟩ : ∃ x, fx[k]? = some x := ⟨fx[k], by simp [hlt]⟩
      obtain ⟨q0, q1⟩ := pair_at (fun p : Int × Int => .int .i64 p.1) (fun p => .int .i64 p.2) fx k (p, q) hsp
      have ca := HR.out.cell (hcells _ _ q0) (by simp)
      have cb := HR.out.cell (hcells _ _ q1) (by simp)
      have hpq := HFX.out (p, q) (List.mem_of_getElem? hsp)
      have HST := hide (mapF_step hsp)
      have hky := key_int hpq.1.1 hpq.1.2
      have hwq := wf64 hpq.2.1 hpq.2.2
      have hgr : g < wr.heap.size := by have := HR.out.size; omega
      clear hcells hsp q0 q1
      go_wp2_with (at_mapUpdate; refine wpList_putI rfl _ _ _ 68 rfl 3 keyed_int Tryz.underlying68 w1.heap.size n (mapF (fx.take k)) rfl (HM.out.alloc _) (by unfold maxLen; omega) _ (.int .i64 p) rfl hky trivial q rfl hwq ?_)
      intro w4 hm4 hc4
      rw [HST.out] at hm4
      have HM4 := hide hm4
      have HC4 : Hid (Chg w1 w4 []) := hide ((HR.out.alloc _).trans hc4 (fun k hk => .inr (by simp only [List.mem_singleton] at hk; omega)))
      clear hm4 hc4
      go_wp2
      go_roundw
      case rel => exact ⟨k + 1, by omega, by go_num, HC4, n + 1, by omega, HM4⟩
      case measure => simp [intOf]; omega
    · have hk2 : k = fx.length := by omega
      subst hk2
      have hmm1 := HM.out
      rw [List.take_length] at hmm1
      have HM1 := hide hmm1
      have hml := hmm1.lt
      have d1 := HR.out.cell c1 (by simp)
      clear hmm1 HM
      go_wp2
      go_loopw [11, 58] (fun v i w2 => ∃ k : Nat, k ≤ bm.code.length ∧ i = .int .i64 k ∧ Hid (Chg w1 w2 []) ∧ Hid (w2.ownsRow w1.heap.size 62 1 v k (u32s ((codeM fx bm.code).take k))) ∧ Hid (MapI w2 3 w1.heap.size n (mapF fx))) (fun _ i _ => bm.code.length - (intOf i).toNat)
      case atStart => exact ⟨0, Nat.zero_le _, rfl, HR, hide (World.ownsRow_nil _ _ _ _), HM1⟩
      case round =>
       obtain ⟨k2, hk2, rfl, HR2, HO2, HM2⟩ := hrel
       by_cases hlt2 : k2 < bm.code.length
       · obtain ⟨g, hg, hgl, hgb, hcells⟩ := HX2.out (by omega)
         subst hg
         obtain ⟨x, hsx⟩ : ∃ x, bm.code[k2]? = some x := ⟨bm.code[k2], by simp [hlt2]⟩
         obtain ⟨q0, q1, q2, q3, q4⟩ := five_at bm.code k2 x hsx
         have ca0 := HR2.out.cell (hcells _ _ q0) (by simp)
         have ca1 := HR2.out.cell (hcells _ _ q1) (by simp)
         have ca2 := HR2.out.cell (hcells _ _ q2) (by simp)
         have ca3 := HR2.out.cell (hcells _ _ q3) (by simp)
         have ca4 := HR2.out.cell (hcells _ _ q4) (by simp)
         have HT := hide (codeM_take (fx := fx) hsx)
         obtain ⟨op, d, a, b1, n1⟩ := x
         have hky := key_int (k := k2) (by omega) (by omega)
         have hgr : g < wr.heap.size := by have := HR2.out.size; omega
         obtain ⟨i0, hi, hz0, hz1, hz2⟩ := info_parts info_u32
         obtain ⟨Ao, co, rfl⟩ := own_slice HO2.out
         clear hcells hsx q0 q1 q2 q3 q4
         cases hq : lastL fx k2 with
         | none =>
          have hen := fun W => enc_any ⟨op, d, a, b1, n1⟩ W
          have hpt : patched fx k2 ⟨op, d, a, b1, n1⟩ = ⟨op, d, a, b1, n1⟩ := by unfold patched; rw [hq]
          unfold insVal at hen
          have hlk : mapF fx (.int .i64 k2) = none := hq
          clear hq
          go_wp2_with (at_lookup; refine wpList_lookI rfl _ _ 68 rfl 3 keyed_int Tryz.underlying68 w1.heap.size n (mapF fx) rfl (HM2.out.alloc _) _ (.int .i64 k2) rfl hky trivial ?_; rw [hlk])
          go_at_call 35
          refine (hen _).mono ?_
          rintro e w4 ⟨⟨z4, rfl⟩, hc4⟩
          have hc24 : Chg wr w4 [] := ((Chg.refl wr []).alloc _).trans hc4 (by simp)
          have HC4 := hide hc24
          have HO4 := hide (own_chgD HO2.out hc24 (fun g hg => by simp))
          have HM4 := hide (HM2.out.chg hc24 (by simp))
          have HTT := hide (HT.out.trans (by rw [hpt]))
          clear hc4 hc24 hpt hlk hen HT
          generalize encI _ = ee at HTT ⊢
          go_wp2_with (at_builtin; refine wpList_append_own _ rfl _ _ 41 rfl w1.heap.size 62 i0 (.int .u32 0) 1 4 Tryz.underlying41 hi hz0 hz1 hz2 rfl (by decide) _ k2 _ rfl (HO4.out.alloc _) ⟨w4.heap.size, 0, none⟩ 1 1 [.int .u32 ee] rfl rfl ?c1 ?c2 ?c3 ?c4 ?c5 ?_)
          case c1 =>
           intro j u hj
           match j, hj with
           | 0, hj => simp at hj; subst hj; simp [Addr.add]
          case c2 => intro u hu; simp at hu; subst hu; rfl
          case c3 => unfold maxLen; omega
          case c4 => omega
          case c5 => have := HR2.out.size; have := HC4.out.size; simp; omega
          intro v' w5 hown' hgrow _
          have hchg45 : Chg w4 w5 (Value.slice Ao k2 co).ownBlock.toList := ((Chg.refl w4 _).alloc _).trans (Chg.of_grown hgrow (fun k hk => .inl (by simp [hk]))) (fun k hk => .inl hk)
          have hM5 := HM4.out.chg hchg45 (fun hm => by
           have hm' := Option.mem_toList.1 hm
           obtain ⟨cur, hcur⟩ := row_heap HO4.out hm'
           obtain ⟨es, kk, hes⟩ := HM4.out.obj
           exact map_ne hcur hes rfl)
          have hC5 : Chg w1 w5 [] := (HR2.out.trans HC4.out (by simp)).trans hchg45 (fun k hk => .inr (by have := (HO4.out.lt k (Option.mem_toList.1 hk)).1; exact this))
          have HM5 := hide hM5
          have HC5 := hide hC5
          have HO5 := hide hown'
          obtain ⟨A6, c6, rfl⟩ := own_slice hown'
          clear hown' hgrow hchg45 hM5 hC5
          go_wp2
          go_roundw
          case rel =>
           refine ⟨k2 + 1, by omega, by go_num, HC5, ?_, HM5⟩
           rw [HTT.out, u32s_snoc]
           exact HO5
          case measure => simp [intOf]; omega
         | some tq =>
          have hen := fun W => enc_any ⟨op, d, a, b1, tq⟩ W
          have hpt : patched fx k2 ⟨op, d, a, b1, n1⟩ = ⟨op, d, a, b1, tq⟩ := by unfold patched; rw [hq]
          unfold insVal at hen
          have hlk : mapF fx (.int .i64 k2) = some tq := hq
          clear hq
          go_wp2_with (at_lookup; refine wpList_lookI rfl _ _ 68 rfl 3 keyed_int Tryz.underlying68 w1.heap.size n (mapF fx) rfl (HM2.out.alloc _) _ (.int .i64 k2) rfl hky trivial ?_; rw [hlk])
          go_at_call 35
          refine (hen _).mono ?_
          rintro e w4 ⟨⟨z4, rfl⟩, hc4⟩
          have hc24 : Chg wr w4 [] := ((Chg.refl wr []).alloc _).trans hc4 (by simp)
          have HC4 := hide hc24
          have HO4 := hide (own_chgD HO2.out hc24 (fun g hg => by simp))
          have HM4 := hide (HM2.out.chg hc24 (by simp))
          have HTT := hide (HT.out.trans (by rw [hpt]))
          clear hc4 hc24 hpt hlk hen HT
          generalize encI _ = ee at HTT ⊢
          go_wp2_with (at_builtin; refine wpList_append_own _ rfl _ _ 41 rfl w1.heap.size 62 i0 (.int .u32 0) 1 4 Tryz.underlying41 hi hz0 hz1 hz2 rfl (by decide) _ k2 _ rfl (HO4.out.alloc _) ⟨w4.heap.size, 0, none⟩ 1 1 [.int .u32 ee] rfl rfl ?c1 ?c2 ?c3 ?c4 ?c5 ?_)
          case c1 =>
           intro j u hj
           match j, hj with
           | 0, hj => simp at hj; subst hj; simp [Addr.add]
          case c2 => intro u hu; simp at hu; subst hu; rfl
          case c3 => unfold maxLen; omega
          case c4 => omega
          case c5 => have := HR2.out.size; have := HC4.out.size; simp; omega
          intro v' w5 hown' hgrow _
          have hchg45 : Chg w4 w5 (Value.slice Ao k2 co).ownBlock.toList := ((Chg.refl w4 _).alloc _).trans (Chg.of_grown hgrow (fun k hk => .inl (by simp [hk]))) (fun k hk => .inl hk)
          have hM5 := HM4.out.chg hchg45 (fun hm => by
           have hm' := Option.mem_toList.1 hm
           obtain ⟨cur, hcur⟩ := row_heap HO4.out hm'
           obtain ⟨es, kk, hes⟩ := HM4.out.obj
           exact map_ne hcur hes rfl)
          have hC5 : Chg w1 w5 [] := (HR2.out.trans HC4.out (by simp)).trans hchg45 (fun k hk => .inr (by have := (HO4.out.lt k (Option.mem_toList.1 hk)).1; exact this))
          have HM5 := hide hM5
          have HC5 := hide hC5
          have HO5 := hide hown'
          obtain ⟨A6, c6, rfl⟩ := own_slice hown'
          clear hown' hgrow hchg45 hM5 hC5
          go_wp2
          go_roundw
          case rel =>
           refine ⟨k2 + 1, by omega, by go_num, HC5, ?_, HM5⟩
           rw [HTT.out, u32s_snoc]
           exact HO5
          case measure => simp [intOf]; omega
       · have hk3 : k2 = bm.code.length := by omega
         subst hk3
         have ho2 := HO2.out
         rw [List.take_of_length_le (by rw [codeM_len]; omega)] at ho2
         have HO3 := hide ho2
         obtain ⟨A6, c6, rfl⟩ := own_slice ho2
         clear ho2 HO2
         go_wp2
         refine bodyPost_ret (results_tmp3 rfl _ _ _) rfl ?_
         rw [HFE.out]
         exact ⟨HC.out.trans HR2.out (by simp), _, rfl, Sl.own HO3.out⟩
end Go.Proofs.YtjfnpokebaagmaaGreatDoor
