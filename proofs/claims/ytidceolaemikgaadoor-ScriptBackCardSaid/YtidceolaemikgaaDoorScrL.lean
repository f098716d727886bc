/- The program's script.Parse: the walk. -/
import Derived.Test.YtidceolaemikgaaDoorScrK
namespace Go.Proofs.YtidceolaemikgaaDoor
open Go.RowKit Go.Deep Go.Shelf
set_option linter.unusedVariables false
attribute [local go_sem] Oper.semAt_some
theorem idle_cons (c : UInt8) (cs : List UInt8) (r : List (List UInt8)) : idleL ((c :: cs) :: r) = (c == 35) := rfl
theorem parseL_idle {k : Nat} {out : List DeedL} {t : List UInt8} {ts : List (List UInt8)} (h : idleL (wordsL t) = true) : parseL k out (t :: ts) = parseL (k + 1) out ts := by
  rw [parseL, if_pos h]
theorem parseL_bad {k : Nat} {out : List DeedL} {t : List UInt8} {ts : List (List UInt8)} (h : idleL (wordsL t) = false) (hd : deedL (wordsL t) = none) : parseL k out (t :: ts) = ([], k, 3) := by
  rw [parseL, if_neg (by rw [h]; decide), hd]
theorem parseL_long {k : Nat} {out : List DeedL} {t : List UInt8} {ts : List (List UInt8)} {d : DeedL} (h : idleL (wordsL t) = false) (hd : deedL (wordsL t) = some d) (hl : out.length = 1000) : parseL k out (t :: ts) = ([], k, 5) := by
  rw [parseL, if_neg (by rw [h]; decide), hd]
  show (if out.length = 1000 then _ else _) = _
  rw [if_pos hl]
theorem parseL_go {k : Nat} {out : List DeedL} {t : List UInt8} {ts : List (List UInt8)} {d : DeedL} (h : idleL (wordsL t) = false) (hd : deedL (wordsL t) = some d) (hl : out.length ≠ 1000) : parseL k out (t :: ts) = parseL (k + 1) (out ++ [d]) ts := by
  rw [parseL, if_neg (by rw [h]; decide), hd]
  show (if out.length = 1000 then _ else _) = _
  rw [if_neg hl]
theorem lrop_at (L : List (List UInt8)) (k : Nat) (h : k < L.length) : L.drop k = L.getD k [] :: L.drop (k + 1) := by
  rw [List.drop_eq_getElem_cons h]
  simp [h]
theorem own_chg {w w' : World} {base e size n : Nat} {v : Value} {xs : List Value} (h : w.ownsRow base e size v n xs) (hc : Chg w w' []) : w'.ownsRow base e size v n xs :=
  h.kept (row := none) ⟨hc.os, hc.tape, hc.output, hc.size, fun k hk _ => hc.block k hk (by simp)⟩ (by cases v.ownBlock <;> simp)
theorem own_slice {w : World} {base e size n : Nat} {v : Value} {xs : List Value} (h : w.ownsRow base e size v n xs) : ∃ A c, v = .slice A n c := by
  rcases h.2 with ⟨rfl, h0⟩ | ⟨g, cap, cur, rfl, _⟩
  · exact ⟨none, 0, by rw [h0]⟩
  · exact ⟨_, cap, rfl⟩
theorem dcells_append {w w' : World} {base n : Nat} {v : Value} {xs ys : List Value} {ds : List DeedL} {o1 o2 : Obj} (hO : w.ownsRow base 49 2 v n xs) (hD : DCells w ys ds) (hg : ((w.alloc o1).alloc o2).grownBy w' v.ownBlock) : DCells w' ys ds := by
  have hc : Chg w w' v.ownBlock.toList := (((Chg.refl w []).alloc o1).alloc o2 |>.more (by simp)).trans (Chg.of_grown hg (fun k hk => .inl (by simp [hk]))) (fun k hk => .inl hk)
  refine DCells.chg hc ?_ ys ds hD
  intro g hg cur e
  rcases hO.2 with ⟨rfl, _⟩ | ⟨g', cap, cur', rfl, _, h2, _⟩
  · simp [Value.ownBlock] at hg
  · simp [Value.ownBlock] at hg
    subst hg
    rw [h2] at e
    injection e with e
    injection e with _ e
    exact absurd e (by decide)
set_option maxRecDepth 100000 in
theorem parse_calls (l : List UInt8) (w : World) (hl : l.length ≤ 900000) (hm : MxL w) :
    Calls Tryd.prog 22 #[strV l] w (ParseP (parseL 0 [] (linesL l)) w) := by
  obtain ⟨i0, hi, hz0, hz1, hz2⟩ := info_parts info_deed
  have hT := linesL_total l
  have hls := lines_calls l w (by omega) hm
  generalize linesL l = L at *
  have HT := hide hT.2
  have hn := hT.1
  clear hT
  unfold strV
  go_enter Tryd.func22, Tryd.ntmps22
  go_wp2_with fail
  go_step3
  go_wp2_with (go_at_call 32; refine hls.mono ?_)
  rintro e w1 ⟨v, rfl, hs, hc⟩
  obtain ⟨A, c, rfl, hx⟩ := strs_open hs
  have HC := hide hc
  have HX := hide hx
  have HM := hide (hm.chg hc)
  clear hs hc hx hls hm
  go_wp2
  go_step3
  go_wp2
  go_loopw [5, 16] (fun v i wr => ∃ (k : Nat) (out : List DeedL) (xs : List Value), k ≤ L.length ∧ i = .int .i64 k ∧ out.length ≤ 1000 ∧ Hid (wr.ownsRow w1.heap.size 49 2 v out.length xs) ∧ Hid (DCells wr xs out) ∧ Hid (Chg w1 wr []) ∧
    Hid (parseL 0 [] L = parseL k out (L.drop k))) (fun _ i _ => L.length - (intOf i).toNat)
  case atStart => exact ⟨0, [], [], Nat.zero_le _, rfl, Nat.zero_le _, hide (World.ownsRow_nil _ _ _ _), hide trivial, hide (Chg.refl _ _), hide rfl⟩
  case round =>
    obtain ⟨k, out, xs, hk, rfl, hol, HO, HD, HR, HI⟩ := hrel
    by_cases hlt : k < L.length
    · obtain ⟨b, off, rfl, hbl, h2⟩ := HX.out (by omega)
      have hcell := HR.out.cell (h2 k hlt) (by simp)
      have HP := hide (lrop_at L k hlt)
      have ht : (L.getD k []).length ≤ 900000 := by
        have := HT.out (L.getD k []) (by simp [hlt])
        omega
      have hw := words_calls (L.getD k []) wr (by omega) (HM.out.chg HR.out)
      have hsm := wordsL_small (L.getD k [])
      have HSM := hide hsm
      clear h2 hsm
      generalize L.getD k [] = t at *
      unfold strV at *
      go_wp2_with (go_at_call 33; refine hw.mono ?_)
      rintro e w2 ⟨v2, rfl, hs2, hc2⟩
      obtain ⟨A2, c2, rfl, hx2⟩ := strs_open hs2
      have HX2 := hide hx2
      have HC2 := hide hc2
      have HS2 := hide hs2
      clear hs2 hc2 hx2 hw hcell
      obtain ⟨A5, c5, rfl⟩ := own_slice HO.out
      have HD2 := hide (HD.out.chg HC2.out (by simp))
      have HO2 : Hid (w2.ownsRow w1.heap.size 49 2 (.slice A5 out.length c5) out.length xs) := hide (own_chg HO.out HC2.out)
      have HR2 := hide (HR.out.trans HC2.out (by simp))
      generalize hws : wordsL t = ws at *
      have HW := hide hws
      clear hws
      match ws with
      | [] =>
        go_wp2
        go_roundw
        case rel =>
          refine ⟨k + 1, out, xs, by omega, by go_num, hol, HO2, HD2, HR2, hide ?_⟩
          rw [HI.out, HP.out, parseL_idle (by rw [HW.out]; rfl)]
        case measure => simp [intOf]; omega
      | a :: rest =>
        obtain ⟨b2, off2, rfl, hbl2, h3⟩ := HX2.out (by simp)
        have hcell := h3 0 (by simp)
        have hane := (HSM.out a (by simp)).2
        obtain ⟨x, xr, rfl⟩ := List.exists_cons_of_ne_nil hane
        have hq : ∀ h, (⟨(x :: xr).toArray⟩ : ByteArray)[0]'h = x := fun h => rfl
        simp only [List.getD_cons_zero, Nat.add_zero, List.length_cons, strV] at *
        clear h3 hane
        cases hx35 : (x == 35) with
        | true =>
          have hx : (x.toNat == 35) = true := by rw [beq_iff_eq] at hx35; rw [hx35]; rfl
          have H35 := hide hx35
          have hx' : ((x.toNat : Int) == 35) = true := by rw [beq_iff_eq] at hx ⊢; omega
          have hz : ((rest.length : Int) + 1 == 0) = false := by rw [beq_eq_false_iff_ne]; omega
          clear hx35
          go_wp2
          go_roundw
          case rel =>
            refine ⟨k + 1, out, xs, by omega, by go_num, hol, HO2, HD2, HR2, hide ?_⟩
            rw [HI.out, HP.out, parseL_idle (by rw [HW.out, idle_cons, H35.out])]
          case measure => simp [intOf]; omega
        | false =>
          have hx : (x.toNat == 35) = false := by
            rw [beq_eq_false_iff_ne] at hx35 ⊢
            exact fun h => hx35 (UInt8.toNat_inj.1 h)
          have H35 := hide hx35
          have hd := deed_calls ((x :: xr) :: rest) _ w2 (fun y hy => by have := (HSM.out y hy).1; omega) HS2.out
          have HIL : Hid (idleL (wordsL t) = false) := hide (by rw [HW.out, idle_cons, H35.out])
          have hz : ((rest.length : Int) + 1 == 0) = false := by rw [beq_eq_false_iff_ne]; omega
          have hx' : ((x.toNat : Int) == 35) = false := by rw [beq_eq_false_iff_ne] at hx ⊢; omega
          clear hx35
          go_wp2_with (go_at_call 34; refine hd.mono ?_)
          rintro e w3 ⟨f, A3, n3, c3, rfl, hdd, hc3⟩
          have HDD := hide hdd
          have HC3 := hide hc3
          have HD3 := hide (HD2.out.chg HC3.out (by simp))
          have HO3 := hide (own_chg HO2.out HC3.out)
          have HR3 := hide (HR2.out.trans HC3.out (by simp))
          clear hdd hc3 hd
          cases hdo : deedL ((x :: xr) :: rest) with
          | none =>
            have HO1 := hide hdo
            rw [show (none : Option DeedL).isSome = false from rfl]
            clear hdo
            go_wp2
            refine bodyPost_ret (results_tmp3 rfl _ _ _) rfl ?_
            have h : parseL 0 [] L = ([], k, 3) := by rw [HI.out, HP.out, parseL_bad HIL.out (by rw [HW.out, HO1.out])]
            rw [h]
            exact ⟨_, rfl, DSl.nil _, HC.out.trans (HR3.out.alloc _) (by simp)⟩
          | some dx =>
            have HO1 := hide hdo
            rw [show (some dx : Option DeedL).isSome = true from rfl]
            obtain ⟨f1, bs⟩ := dx
            obtain ⟨hf, hds, hdf, hdt⟩ := HDD.out (f1, bs) hdo
            have hf : f = f1 := hf
            subst hf
            have hds : Sl w3 (.slice A3 n3 c3) (Lib.byteCells bs) := hds
            clear hdo
            by_cases h1000 : out.length = 1000
            · have HL := hide h1000
              have hy1 : ((out.length : Int) == 1000) = true := by rw [beq_iff_eq]; omega
              have hy2 : (out.length == 1000) = true := by rw [beq_iff_eq]; omega
              clear h1000
              go_wp2
              refine bodyPost_ret (results_tmp3 rfl _ _ _) rfl ?_
              have h : parseL 0 [] L = ([], k, 5) := by rw [HI.out, HP.out, parseL_long HIL.out (by rw [HW.out, HO1.out]) HL.out]
              rw [h]
              exact ⟨_, rfl, DSl.nil _, HC.out.trans (HR3.out.alloc _) (by simp)⟩
            · have HL := hide h1000
              have hy1 : ((out.length : Int) == 1000) = false := by rw [beq_eq_false_iff_ne]; omega
              have hy2 : (out.length == 1000) = false := by rw [beq_eq_false_iff_ne]; omega
              have hlt1 : out.length < 1000 := by omega
              have HSD := hide hds
              have HTD := hide hdt
              clear h1000 hds hdt hdf
              go_wp2_with (at_builtin; refine wpList_append_own _ rfl _ _ 28 rfl w1.heap.size 49 i0 (.agg #[.bool false, .slice none 0 0]) 2 32 Tryd.underlying28 hi hz0 hz1 hz2 rfl (by decide) _ out.length _ rfl ((HO3.out.alloc _).alloc _) ⟨w3.heap.size + 1, 0, none⟩ 1 1 [.bool f, .slice A3 n3 c3] rfl rfl ?c1 ?c2 ?c3 ?c4 ?c5 ?_)
              case c1 =>
                intro j u hj
                match j, hj with
                | 0, hj => simp at hj; subst hj; simp [Addr.add]
                | 1, hj => simp at hj; subst hj; simp [Addr.add]
              case c2 => intro u hu; simp at hu; rcases hu with rfl | rfl <;> rfl
              case c3 => unfold maxLen; omega
              case c4 => omega
              case c5 => have := HR3.out.size; simp; omega
              intro v' w4 hown' hgrow _
              have HG := hide (chg_append (HR3.out.alloc _) (HO3.out.alloc _) _ hgrow)
              have HO4 := hide hown'
              have HD4 := hide (dcells_append HO3.out (DCells.snoc (x := (f, bs)) rfl HSD.out HTD.out xs out HD3.out) hgrow)
              obtain ⟨A6, c6, rfl⟩ := own_slice hown'
              clear hown' hgrow
              go_wp2
              go_roundw
              case rel =>
                refine ⟨k + 1, out ++ [(f, bs)], xs ++ [.bool f, .slice A3 n3 c3], by omega, by go_num, by simp; omega, ?_, HD4, HG, hide ?_⟩
                · rw [List.length_append]; exact HO4
                · rw [HI.out, HP.out, parseL_go HIL.out (by rw [HW.out, HO1.out]) HL.out]
              case measure => simp [intOf]; omega
    · have hk2 : k = L.length := by omega
      subst hk2
      go_wp2
      refine bodyPost_ret (results_tmp3 rfl _ _ _) rfl ?_
      have h := HI.out
      rw [List.drop_length, parseL] at h
      rw [h]
      exact ⟨_, rfl, DSl.own HO.out HD.out, HC.out.trans HR.out (by simp)⟩
end Go.Proofs.YtidceolaemikgaaDoor
