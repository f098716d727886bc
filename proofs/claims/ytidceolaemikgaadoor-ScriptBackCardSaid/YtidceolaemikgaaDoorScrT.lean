/- The reference's script.Parse. -/
import Derived.Test.YtidceolaemikgaaDoorScrL
import Derived.Test.YtidceolaemikgaaDoorScrQ
namespace Go.Proofs.YtidceolaemikgaaDoor
open Go.RowKit Go.Deep Go.Shelf
set_option linter.unusedVariables false
attribute [local go_sem] Oper.semAt_some
theorem deedL_feed (r : List (List UInt8)) (h : r.length ≠ 1) : deedL (feedL :: r) = none := by
  match r, h with
  | [], _ => rfl
  | [_], h => simp at h
  | _ :: _ :: _, _ => rfl
theorem deedL_feed1 (d : List UInt8) : deedL [feedL, d] = (dataL d).map fun b => (true, b) := by simp [deedL]
theorem deedL_reset (r : List (List UInt8)) (h : r ≠ []) : deedL (resetL :: r) = none := by
  match r, h with
  | [], h => exact absurd rfl h
  | [a], _ => simp [deedL, resetL, feedL]
  | _ :: _ :: _, _ => rfl
theorem deedL_other (a : List UInt8) (r : List (List UInt8)) (h1 : a ≠ feedL) (h2 : a ≠ resetL) : deedL (a :: r) = none := by
  match r with
  | [] => simp [deedL, h2]
  | [_] => simp [deedL, h1]
  | _ :: _ :: _ => rfl
theorem own_chgD {w w' : World} {D : List Nat} {base : Nat} {e : TypeId} {size : Nat} {v : Value} {n : Nat} {xs : List Value} (h : w.ownsRow base e size v n xs) (hc : Chg w w' D) (hD : ∀ g, v.ownBlock = some g → g ∉ D) : w'.ownsRow base e size v n xs := by
  refine ⟨h.1, ?_⟩
  rcases h.2 with hn | ⟨g, cap, cur, rfl, hb, hgg, rest⟩
  · exact .inl hn
  · exact .inr ⟨g, cap, cur, rfl, hb, hc.heap hgg (hD g rfl), rest⟩
theorem chg_grown {W wx w2 : World} {v : Value} {e size n : Nat} {xs : List Value} (hc : Chg W wx []) (hown : wx.ownsRow W.heap.size e size v n xs) (hg : wx.grownBy w2 v.ownBlock) : Chg W w2 [] := by
  refine hc.trans (D' := v.ownBlock.toList) (Chg.of_grown hg (fun k hk => .inl (by simp [hk]))) (fun k hk => .inr ?_)
  exact (hown.lt k (by simpa using hk)).1
theorem dcells_grown {w w' : World} {base n : Nat} {v : Value} {xs ys : List Value} {ds : List DeedL} (hO : w.ownsRow base 49 2 v n xs) (hD : DCells w ys ds) (hg : w.grownBy w' v.ownBlock) : DCells w' ys ds := by
  have hc : Chg w w' v.ownBlock.toList := Chg.of_grown hg (fun k hk => .inl (by simp [hk]))
  refine DCells.chg hc ?_ ys ds hD
  intro g hg cur e
  rcases hO.2 with ⟨rfl, _⟩ | ⟨g', cap, cur', rfl, _, h2, _⟩
  · simp [Value.ownBlock] at hg
  · simp [Value.ownBlock] at hg
    subst hg
    rw [h2] at e
    injection e with e
    injection e with _ e
    exact absurd e (by decide)
set_option maxRecDepth 100000 in
set_option maxHeartbeats 1000000 in
theorem rparse_calls (l : List UInt8) (w : World) (hl : l.length ≤ 900000) :
    Calls Tryd.prog 23 #[strV l] w (ParseP (parseL 0 [] (linesL l)) w) := by
  obtain ⟨i0, hi, hz0, hz1, hz2⟩ := info_parts info_deed
  have hT := linesL_total l
  have hls := rlines_calls l w (by omega)
  generalize linesL l = L at *
  have HT := hide hT.2
  have hn := hT.1
  clear hT
  unfold strV
  go_enter Tryd.func23, Tryd.ntmps23
  go_wp2_with (go_at_call 35; refine hls.mono ?_)
  rintro e w1 ⟨v, rfl, hs, hc⟩
  obtain ⟨A, c, rfl, hx⟩ := strs_open hs
  have HC := hide hc
  have HX := hide hx
  clear hs hc hx hls
  go_wp2
  go_loopw [6, 7] (fun v i wr => ∃ (k : Nat) (out : List DeedL) (xs : List Value), k ≤ L.length ∧ i = .int .i64 k ∧ out.length ≤ 1000 ∧ Hid (wr.ownsRow w1.heap.size 49 2 v out.length xs) ∧ Hid (DCells wr xs out) ∧ Hid (Chg w1 wr []) ∧
    Hid (parseL 0 [] L = parseL k out (L.drop k))) (fun _ i _ => L.length - (intOf i).toNat)
  case atStart => exact ⟨0, [], [], Nat.zero_le _, rfl, Nat.zero_le _, hide (World.ownsRow_nil _ _ _ _), hide trivial, hide (Chg.refl _ _), hide rfl⟩
  case round =>
    obtain ⟨k, out, xs, hk, rfl, hol, HO, HD, HR, HI⟩ := hrel
    by_cases hlt : k < L.length
    · obtain ⟨b, off, rfl, hbl, h2⟩ := HX.out (by omega)
      have hcell := HR.out.cell (h2 k hlt) (by simp)
      have HP := hide (lrop_at L k hlt)
      have ht : (L.getD k []).length ≤ 900000 := by
        have := HT.out (L.getD k []) (by simp [hlt])
        omega
      have hw := rwords_calls (L.getD k []) wr (by omega)
      have hsm := wordsL_small (L.getD k [])
      have HSM := hide hsm
      clear h2 hsm
      generalize L.getD k [] = t at *
      unfold strV at *
      go_wp2_with (go_at_call 36; refine hw.mono ?_)
      rintro e w2 ⟨v2, rfl, hs2, hc2⟩
      obtain ⟨A2, c2, rfl, hx2⟩ := strs_open hs2
      have HX2 := hide hx2
      have HC2 := hide hc2
      have HS2 := hide hs2
      clear hs2 hc2 hx2 hw hcell
      obtain ⟨A5, c5, rfl⟩ := own_slice HO.out
      have HD2 := hide (HD.out.chg HC2.out (by simp))
      have HO2 : Hid (w2.ownsRow w1.heap.size 49 2 (.slice A5 out.length c5) out.length xs) := hide (own_chg HO.out HC2.out)
      have HR2 := hide (HR.out.trans HC2.out (by simp))
      generalize hws : wordsL t = ws at *
      have HW := hide hws
      clear hws
      match ws with
      | [] =>
        go_wp2
        go_roundw
        case rel =>
          refine ⟨k + 1, out, xs, by omega, by go_num, hol, HO2, HD2, HR2, hide ?_⟩
          rw [HI.out, HP.out, parseL_idle (by rw [HW.out]; rfl)]
        case measure => simp [intOf]; omega
      | a :: rest =>
        obtain ⟨b2, off2, rfl, hbl2, h3⟩ := HX2.out (by simp)
        have hcell := h3 0 (by simp)
        have H3 := hide h3
        have hane := (HSM.out a (by simp)).2
        obtain ⟨x, xr, rfl⟩ := List.exists_cons_of_ne_nil hane
        have hq : ∀ h, (⟨(x :: xr).toArray⟩ : ByteArray)[0]'h = x := fun h => rfl
        simp only [List.getD_cons_zero, Nat.add_zero, List.length_cons, strV] at *
        have hz : ((rest.length : Int) + 1 == 0) = false := by rw [beq_eq_false_iff_ne]; omega
        clear h3 hane
        cases hx35 : (x == 35) with
        | true =>
          have hx : (x.toNat == 35) = true := by rw [beq_iff_eq] at hx35; rw [hx35]; rfl
          have H35 := hide hx35
          have hx' : ((x.toNat : Int) == 35) = true := by rw [beq_iff_eq] at hx ⊢; omega
          clear hx35
          go_wp2
          go_roundw
          case rel =>
            refine ⟨k + 1, out, xs, by omega, by go_num, hol, HO2, HD2, HR2, hide ?_⟩
            rw [HI.out, HP.out, parseL_idle (by rw [HW.out, idle_cons, H35.out])]
          case measure => simp [intOf]; omega
        | false =>
          have hx : (x.toNat == 35) = false := by
            rw [beq_eq_false_iff_ne] at hx35 ⊢
            exact fun h => hx35 (UInt8.toNat_inj.1 h)
          have H35 := hide hx35
          have HIL : Hid (idleL (wordsL t) = false) := hide (by rw [HW.out, idle_cons, H35.out])
          have hx' : ((x.toNat : Int) == 35) = false := by rw [beq_eq_false_iff_ne] at hx ⊢; omega
          clear hx35
          have HBAD : Hid (deedL ((x :: xr) :: rest) = none → parseL 0 [] L = ([], k, 3)) := hide (fun h => by rw [HI.out, HP.out, parseL_bad HIL.out (by rw [HW.out, h])])
          by_cases hfe : x :: xr = feedL
          · have hxf : (x :: xr == [102, 101, 101, 100]) = true := beq_iff_eq.2 hfe
            by_cases hr1 : rest.length = 1
            · obtain ⟨d, rfl⟩ := List.length_eq_one_iff.1 hr1
              have hcell1 : w2.cell? ⟨b2, off2 + 1, none⟩ = some (.string ⟨d.toArray⟩) := H3.out 1 (by simp)
              have hdl : d.length ≤ 1000000 := by have := (HSM.out d (by simp)).1; omega
              have huh := runhex_calls d (w2.alloc (.cells #[.bool true, .slice none 0 0] 49)) hdl
              have HDE0 : Hid (deedL ((x :: xr) :: [d]) = (dataL d).map fun b => (true, b)) := hide (by rw [hfe]; exact deedL_feed1 d)
              simp only [List.length_cons, List.length_nil, Nat.zero_add, strV] at *
              clear hr1 hfe
              go_wp2_with (go_at_call 37; refine huh.mono ?_)
              rintro e w3 ⟨v3, rfl, hs3, hc3, hf3, ht3⟩
              have HS3 := hide hs3
              have HC3 := hide hc3
              have HF3 := hide hf3
              have HT3 := hide ht3
              obtain ⟨A3, c3, rfl, _, _⟩ := hs3
              generalize hn3 : (Lib.byteCells ((dataL d).getD [])).length = n3 at *
              have HN3 := hide hn3
              have HR3 := hide (HR2.out.trans (((Chg.refl w2 []).alloc _).trans HC3.out (by simp)) (by simp))
              clear hc3 hf3 ht3 hn3 huh
              cases hdd : dataL d with
              | none =>
                have HE := hide (HBAD.out (by rw [HDE0.out, hdd]; rfl))
                rw [show (none : Option (List UInt8)).isSome = false from rfl]
                clear hdd
                go_wp2
                refine bodyPost_ret (results_tmp3 rfl _ _ _) rfl ?_
                rw [HE.out]
                exact ⟨_, rfl, DSl.nil _, HC.out.trans HR3.out (by simp)⟩
              | some bs =>
                have HDE : Hid (deedL ((x :: xr) :: [d]) = some (true, bs)) := hide (by rw [HDE0.out, hdd]; rfl)
                rw [show (some bs : Option (List UInt8)).isSome = true from rfl]
                have hB := (Blk.new w2 49 [.bool true, .slice none 0 0]).chg HC3.out (by simp)
                have k0 := hB.cell' (i := 0) rfl
                have k1 := hB.cell' (i := 1) rfl
                have kf0 := hB.frozen 0
                have kf1 := hB.frozen 1
                have hlq := hB.lt
                have hB5 := hB.set_ 1 (.slice A3 n3 c3)
                have r0 := hB5.cell' (i := 0) rfl
                have r1 := hB5.cell' (i := 1) rfl
                have h45 : Chg w3 (w3.setCell ⟨w2.heap.size, 1, none⟩ (.slice A3 n3 c3)) [w2.heap.size] := (Chg.refl w3 _).setCell _ _ (by simp)
                have hne : ∀ A n c, Value.slice A3 n3 c3 = .slice (some A) n c → A.block ∉ [w2.heap.size] := fun A n c he => by
                  have := HF3.out A n c he
                  rw [size_alloc] at this
                  simp; omega
                have hs3 := HS3.out
                rw [hdd] at hs3
                have HSD : Hid (Sl (w3.setCell ⟨w2.heap.size, 1, none⟩ (.slice A3 n3 c3)) (.slice A3 n3 c3) (Lib.byteCells bs)) := hide (hs3.chg h45 hne)
                have HTD := hide (HT3.out.chg h45 hne)
                have hoq : ∀ g, (Value.slice A5 out.length c5).ownBlock = some g → g ∉ [w2.heap.size] := fun g hg => by
                  have := (HO2.out.lt g hg).2
                  simp; omega
                have HO5 := hide (own_chgD (own_chg (own_chg HO2.out ((Chg.refl w2 []).alloc (.cells #[.bool true, .slice none 0 0] 49))) HC3.out) h45 hoq)
                have HD5 := hide (DCells.chg h45 (fun g hg cur e => by
                  simp only [List.mem_singleton] at hg
                  subst hg
                  have := hB.symm.trans e
                  injection this with this
                  injection this with _ this
                  exact absurd this (by decide)) _ _ (DCells.chg (D := []) (((Chg.refl w2 []).alloc (.cells #[.bool true, .slice none 0 0] 49)).trans HC3.out (by simp)) (by simp) _ _ HD2.out))
                have HR4 : Hid (Chg w1 (w3.setCell ⟨w2.heap.size, 1, none⟩ (.slice A3 n3 c3)) []) := hide (HR3.out.setCell _ _ (.inr HR2.out.size))
                have hlq5 : w2.heap.size < (w3.setCell ⟨w2.heap.size, 1, none⟩ (.slice A3 n3 c3)).heap.size := by rw [size_setCell]; exact hlq
                clear hdd hB hB5 hs3 h45 hne hoq
                by_cases h1000 : out.length = 1000
                · skip
                  have HL := hide h1000
                  have hy1 : ((out.length : Int) == 1000) = true := by rw [beq_iff_eq]; omega
                  have hy2 : (out.length == 1000) = true := by rw [beq_iff_eq]; omega
                  clear h1000
                  go_wp2
                  refine bodyPost_ret (results_tmp3 rfl _ _ _) rfl ?_
                  have h : parseL 0 [] L = ([], k, 5) := by rw [HI.out, HP.out, parseL_long HIL.out (by rw [HW.out, HDE.out]) HL.out]
                  rw [h]
                  exact ⟨_, rfl, DSl.nil _, HC.out.trans HR4.out (by simp)⟩
                · skip
                  have HL := hide h1000
                  have hy1 : ((out.length : Int) == 1000) = false := by rw [beq_eq_false_iff_ne]; omega
                  have hy2 : (out.length == 1000) = false := by rw [beq_eq_false_iff_ne]; omega
                  have hlt1 : out.length < 1000 := by omega
                  clear h1000
                  go_wp2_with (at_builtin; refine wpList_append_own _ rfl _ _ 28 rfl w1.heap.size 49 i0 (.agg #[.bool false, .slice none 0 0]) 2 32 Tryd.underlying28 hi hz0 hz1 hz2 rfl (by decide) _ out.length _ rfl (HO5.out.alloc _) ⟨_, 0, none⟩ 1 1 [.bool true, .slice A3 n3 c3] rfl rfl ?d1 ?d2 ?d3 ?d4 ?d5 ?_)
                  case d1 =>
                    intro j u hj
                    have hb := Blk.new (w3.setCell ⟨w2.heap.size, 1, none⟩ (.slice A3 n3 c3)) 49 [.bool true, .slice A3 n3 c3]
                    rw [size_setCell] at hb
                    rw [add_plain]
                    match j, hj with
                    | 0, hj => simp at hj; subst hj; exact hb.cell' (i := 0) rfl
                    | 1, hj => simp at hj; subst hj; exact hb.cell' (i := 1) rfl
                  case d2 => intro u hu; simp at hu; rcases hu with rfl | rfl <;> rfl
                  case d3 => unfold maxLen; omega
                  case d4 => omega
                  case d5 => have := HR4.out.size; simp; rw [size_setCell] at this; omega
                  intro v' w4 hown' hgrow _
                  have HG := hide (chg_grown (HR4.out.alloc _) (HO5.out.alloc _) hgrow)
                  have HO4 := hide hown'
                  have HD4 := hide (dcells_grown (HO5.out.alloc _) (DCells.chg (D := []) ((Chg.refl _ []).alloc _) (by simp) _ _ (DCells.snoc (x := (true, bs)) rfl HSD.out HTD.out xs out HD5.out)) hgrow)
                  obtain ⟨A6, c6, rfl⟩ := own_slice hown'
                  clear hown' hgrow
                  go_wp2
                  go_roundw
                  case rel =>
                    refine ⟨k + 1, out ++ [(true, bs)], xs ++ [.bool true, .slice A3 n3 c3], by omega, by go_num, by simp; omega, ?_, HD4, HG, hide ?_⟩
                    · rw [List.length_append]; exact HO4
                    · rw [HI.out, HP.out, parseL_go HIL.out (by rw [HW.out, HDE.out]) HL.out]
                  case measure => simp [intOf]; omega
            · have HE := hide (HBAD.out (by rw [hfe]; exact deedL_feed rest hr1))
              have hr2 : ((rest.length : Int) + 1 != 2) = true := by rw [bne_iff_ne]; omega
              clear hfe hr1
              go_wp2
              refine bodyPost_ret (results_tmp3 rfl _ _ _) rfl ?_
              rw [HE.out]
              exact ⟨_, rfl, DSl.nil _, HC.out.trans (HR2.out.alloc _) (by simp)⟩
          · have hxf : (x :: xr == [102, 101, 101, 100]) = false := beq_eq_false_iff_ne.2 hfe
            by_cases hre : x :: xr = resetL
            · have hxr : (x :: xr != [114, 101, 115, 101, 116]) = false := by rw [bne_eq_false_iff_eq]; exact hre
              have hxr2 : (x :: xr == [114, 101, 115, 101, 116]) = true := beq_iff_eq.2 hre
              by_cases hr0 : rest = []
              · have HDE : Hid (deedL ((x :: xr) :: rest) = some (false, [])) := hide (by rw [hre, hr0]; decide)
                have hr2 : ((rest.length : Int) + 1 != 1) = false := by rw [hr0]; rfl
                have hr3 : rest.length = 0 := by rw [hr0]; rfl
                clear hfe hre hr0
                by_cases h1000 : out.length = 1000
                · skip
                  have HL := hide h1000
                  have hy1 : ((out.length : Int) == 1000) = true := by rw [beq_iff_eq]; omega
                  have hy2 : (out.length == 1000) = true := by rw [beq_iff_eq]; omega
                  clear h1000
                  go_wp2
                  refine bodyPost_ret (results_tmp3 rfl _ _ _) rfl ?_
                  have h : parseL 0 [] L = ([], k, 5) := by rw [HI.out, HP.out, parseL_long HIL.out (by rw [HW.out, HDE.out]) HL.out]
                  rw [h]
                  exact ⟨_, rfl, DSl.nil _, HC.out.trans (HR2.out.alloc _) (by simp)⟩
                · skip
                  have HL := hide h1000
                  have hy1 : ((out.length : Int) == 1000) = false := by rw [beq_eq_false_iff_ne]; omega
                  have hy2 : (out.length == 1000) = false := by rw [beq_eq_false_iff_ne]; omega
                  have hlt1 : out.length < 1000 := by omega
                  clear h1000
                  go_wp2_with (at_builtin; refine wpList_append_own _ rfl _ _ 28 rfl w1.heap.size 49 i0 (.agg #[.bool false, .slice none 0 0]) 2 32 Tryd.underlying28 hi hz0 hz1 hz2 rfl (by decide) _ out.length _ rfl ((HO2.out.alloc _).alloc _) ⟨w2.heap.size + 1, 0, none⟩ 1 1 [.bool false, .slice none 0 0] rfl rfl ?e1 ?e2 ?e3 ?e4 ?e5 ?_)
                  case e1 =>
                    intro j u hj
                    match j, hj with
                    | 0, hj => simp at hj; subst hj; simp [Addr.add]
                    | 1, hj => simp at hj; subst hj; simp [Addr.add]
                  case e2 => intro u hu; simp at hu; rcases hu with rfl | rfl <;> rfl
                  case e3 => unfold maxLen; omega
                  case e4 => omega
                  case e5 => have := HR2.out.size; simp; omega
                  intro v' w4 hown' hgrow _
                  have HG := hide (chg_grown ((HR2.out.alloc _).alloc _) ((HO2.out.alloc _).alloc _) hgrow)
                  have HO4 := hide hown'
                  have HD4 := hide (dcells_grown ((HO2.out.alloc _).alloc _) (DCells.chg (D := []) (((Chg.refl _ []).alloc _).alloc _) (by simp) _ _ (DCells.snoc (x := (false, [])) rfl (sl_nil w2) (ty8_nil w2) xs out HD2.out)) hgrow)
                  obtain ⟨A6, c6, rfl⟩ := own_slice hown'
                  clear hown' hgrow
                  go_wp2
                  go_roundw
                  case rel =>
                    refine ⟨k + 1, out ++ [(false, [])], xs ++ [.bool false, .slice none 0 0], by omega, by go_num, by simp; omega, ?_, HD4, HG, hide ?_⟩
                    · rw [List.length_append]; exact HO4
                    · rw [HI.out, HP.out, parseL_go HIL.out (by rw [HW.out, HDE.out]) HL.out]
                  case measure => simp [intOf]; omega
              · have HE := hide (HBAD.out (by rw [hre]; exact deedL_reset rest hr0))
                have hr2 : ((rest.length : Int) + 1 != 1) = true := by
                  have := List.length_pos_iff.2 hr0
                  rw [bne_iff_ne]; omega
                clear hfe hre hr0
                go_wp2
                refine bodyPost_ret (results_tmp3 rfl _ _ _) rfl ?_
                rw [HE.out]
                exact ⟨_, rfl, DSl.nil _, HC.out.trans (HR2.out.alloc _) (by simp)⟩
            · have hxr : (x :: xr != [114, 101, 115, 101, 116]) = true := by rw [bne_iff_ne]; exact hre
              have hxr2 : (x :: xr == [114, 101, 115, 101, 116]) = false := beq_eq_false_iff_ne.2 hre
              have HE := hide (HBAD.out (deedL_other _ _ hfe hre))
              clear hfe hre
              go_wp2
              refine bodyPost_ret (results_tmp3 rfl _ _ _) rfl ?_
              rw [HE.out]
              exact ⟨_, rfl, DSl.nil _, HC.out.trans (HR2.out.alloc _) (by simp)⟩
    · have hk2 : k = L.length := by omega
      subst hk2
      go_wp2
      refine bodyPost_ret (results_tmp3 rfl _ _ _) rfl ?_
      have h := HI.out
      rw [List.drop_length, parseL] at h
      rw [h]
      exact ⟨_, rfl, DSl.own HO.out HD.out, HC.out.trans HR.out (by simp)⟩
end Go.Proofs.YtidceolaemikgaaDoor
