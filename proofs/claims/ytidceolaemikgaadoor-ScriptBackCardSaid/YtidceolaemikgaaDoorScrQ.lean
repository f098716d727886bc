/- A word's bytes in the reference. -/
import Derived.Test.YtidceolaemikgaaDoorScrP
import Derived.Test.YtidceolaemikgaaDoorScrL
import Derived.Deep.AppendLies
import Derived.Deep.RegionLaw
namespace Go.Proofs.YtidceolaemikgaaDoor
open Go.RowKit Go.Deep Go.Shelf
set_option linter.unusedVariables false
attribute [local go_sem] Oper.semAt_some
theorem pairN_two (l : List UInt8) (x y : UInt8) (h : l.length % 2 = 0) : pairN (l ++ [x] ++ [y]) = pairN l ++ [16 * (digV x).toNat + (digV y).toNat] := by
  rw [pairN_snoc, pairN_snoc, if_pos h]
  have hl := pairN_len l
  have e : (l ++ [x]).length % 2 ≠ 0 := by rw [List.length_append]; show (l.length + 1) % 2 ≠ 0; omega
  rw [if_neg e]
  have e2 : (l ++ [x]).length / 2 = (pairN l).length := by rw [hl, List.length_append]; show (l.length + 1) / 2 = _; omega
  rw [e2, List.set_append_right _ _ (Nat.le_refl _), Nat.sub_self, List.set_cons_zero]
  simp
theorem u8n_snoc (l : List Nat) (n : Nat) : u8n (l ++ [n]) = u8n l ++ [.int .u8 n] := by simp [u8n]
theorem ty8_own {w : World} {base n : Nat} {v : Value} {xs : List Value} (h : w.ownsRow base 5 1 v n xs) : Ty8 w v ∧ ∀ A m c, v = .slice (some A) m c → base ≤ A.block := by
  rcases h.2 with ⟨rfl, _⟩ | ⟨g, cap, cur, rfl, h1, h2, _⟩
  · exact ⟨ty8_nil _, fun A m c e => by cases e⟩
  · refine ⟨fun A m c e => ?_, fun A m c e => ?_⟩
    · injection e with e; injection e with e; subst e; exact ⟨cur, h2⟩
    · injection e with e; injection e with e; subst e; exact h1
theorem chg_append_drew {W wr w2 : World} {v : Value} {e size n : Nat} {xs : List Value} (hc : Chg W wr []) (hown : wr.ownsRow W.heap.size e size v n xs) (o : Obj) (hg : ((wr.alloc o).drew).grownBy w2 v.ownBlock) : Chg W w2 [] := by
  refine ((hc.alloc o).drew).trans (D' := v.ownBlock.toList) (Chg.of_grown hg (fun k hk => .inl (by simp [hk]))) (fun k hk => .inr ?_)
  exact (hown.lt k (by simpa using hk)).1
theorem digit_same (x : UInt8) (w : World) : Calls Tryd.prog 48 #[.int .u8 x.toNat] w fun e w' => e = .returned (.int .i64 (digV x)) ∧ w = w' :=
  (digit_calls x w).mono fun _ _ ⟨h1, h2⟩ => ⟨h1, h2.symm⟩
theorem one_new {w : World} {v : Value} {t : TypeId} : ∀ j u, [v][j]? = some u → ((w.alloc (.cells #[v] t)).drew).cell? ((⟨w.heap.size, 0, none⟩ : Addr).add j) = some u := by
  intro j u hj
  match j, hj with
  | 0, hj => simp at hj; subst hj; simp [Addr.add]
set_option maxRecDepth 100000 in
set_option maxHeartbeats 1000000 in
theorem runhex_main (l : List UInt8) (w : World) (hl : l.length ≤ 1000000) (h45 : l ≠ [45]) : Calls Tryd.prog 37 #[strV l] w (UnhexP l w) := by
  obtain ⟨i0, hi, hz0, hz1, hz2⟩ := info_parts info_u8
  have hx0 : (l == [45]) = false := by simpa using h45
  have hsz : (⟨l.toArray⟩ : ByteArray).size = l.length := rfl
  have H45 := hide h45
  clear h45
  unfold strV
  go_enter Tryd.func37, Tryd.ntmps37
  go_wp2
  clear hx0
  go_loopw [4, 5] (fun v i wr => ∃ p : Nat, p ≤ l.length ∧ p % 2 = 0 ∧ i = .int .i64 p ∧ Hid (wr.ownsRow w.heap.size 5 1 v (p / 2) (u8n (pairN (l.take p)))) ∧ Hid (Chg w wr []) ∧ Hid (∀ x ∈ l.take p, 0 ≤ digV x)) (fun _ i _ => l.length - (intOf i).toNat)
  case atStart => exact ⟨0, Nat.zero_le _, rfl, rfl, hide (World.ownsRow_nil _ _ _ _), hide (Chg.refl _ _), hide (by simp)⟩
  case round =>
    obtain ⟨p, hk, hp2, rfl, HO, HR, HD⟩ := hrel
    obtain ⟨A5, c5, rfl⟩ := own_slice HO.out
    by_cases hlt : p < l.length
    · have hq1 : ∀ h, (⟨l.toArray⟩ : ByteArray)[p]'h = l.getD p 0 := by
        intro h
        show l.toArray[p] = _
        simp [hlt]
      by_cases hodd : p + 1 = l.length
      · have HX := hide (unhex_odd l (by omega))
        have hge : l.length ≤ p + 1 := by omega
        clear hodd
        go_wp2
        go_ret2
        unfold UnhexP dataL
        rw [if_neg H45.out, HX.out]
        exact ⟨_, rfl, sl_nil _, HR.out, fresh_nil _, ty8_nil _⟩
      · have hlt2 : p + 1 < l.length := by omega
        have hq2 : ∀ h, (⟨l.toArray⟩ : ByteArray)[p + 1]'h = l.getD (p + 1) 0 := by
          intro h
          show l.toArray[p + 1] = _
          simp [hlt2]
        have r1 := digV_range (l.getD p 0)
        have r2 := digV_range (l.getD (p + 1) 0)
        have HT : Hid (l.take (p + 2) = l.take p ++ [l.getD p 0] ++ [l.getD (p + 1) 0]) := hide (by
          have h1 := take_at l 0 p hlt (Nat.zero_le _)
          have h2 := take_at l 0 (p + 1) hlt2 (Nat.zero_le _)
          simp only [List.drop_zero] at h1 h2
          rw [h2, h1])
        have HX1 : Hid (digV (l.getD p 0) < 0 → unhexL l = none) := hide (unhex_bad l _ (by simp [hlt]))
        have HX2 : Hid (digV (l.getD (p + 1) 0) < 0 → unhexL l = none) := hide (unhex_bad l _ (by simp [hlt2]))
        have HL : Hid ((l.take p).length % 2 = 0) := hide (by rw [List.length_take]; omega)
        generalize l.getD p 0 = x at *
        generalize l.getD (p + 1) 0 = y at *
        by_cases hx : digV x < 0
        · have HX := hide (HX1.out hx)
          have hdx := digit_same x
          generalize digV x = dx at *
          go_wp2_with (go_at_call 48; (with_reducible refine (hdx _).mono ?_); rintro e w' ⟨rfl, rfl⟩)
          go_ret2
          unfold UnhexP dataL
          rw [if_neg H45.out, HX.out]
          exact ⟨_, rfl, sl_nil _, HR.out, fresh_nil _, ty8_nil _⟩
        · by_cases hy : digV y < 0
          · have HX := hide (HX2.out hy)
            have hdx := digit_same x
            have hdy := digit_same y
            generalize digV x = dx at *
            generalize digV y = dy at *
            go_wp2_with (first | (go_at_call 48; (with_reducible refine (hdx _).mono ?_); rintro e w' ⟨rfl, rfl⟩) | (go_at_call 48; (with_reducible refine (hdy _).mono ?_); rintro e w' ⟨rfl, rfl⟩))
            go_ret2
            unfold UnhexP dataL
            rw [if_neg H45.out, HX.out]
            exact ⟨_, rfl, sl_nil _, HR.out, fresh_nil _, ty8_nil _⟩
          · have hdx := digit_same x
            have hdy := digit_same y
            go_wp2_with (first | (go_at_call 48; (with_reducible refine (hdx _).mono ?_); rintro e w' ⟨rfl, rfl⟩) | (go_at_call 48; (with_reducible refine (hdy _).mono ?_); rintro e w' ⟨rfl, rfl⟩))
            have HU := hide (pairN_two (l.take p) x y HL.out)
            obtain ⟨dx, ex⟩ : ∃ n : Nat, digV x = n := ⟨(digV x).toNat, by omega⟩
            obtain ⟨dy, ey⟩ : ∃ n : Nat, digV y = n := ⟨(digV y).toNat, by omega⟩
            have b1 : dx ≤ 15 := by omega
            have b2 : dy ≤ 15 := by omega
            rw [ex] at hdx
            rw [ey] at hdy
            have HEX := hide ex
            have HEY := hide ey
            rw [ex, ey]
            have s1 : IntKind.i64.wrap (16 * (dx : Int)) = 16 * dx := by rw [IntKind.wrap_i64]; omega
            have s2 : IntKind.i64.wrap (16 * (dx : Int) + dy) = 16 * dx + dy := by rw [IntKind.wrap_i64]; omega
            have s3 : IntKind.u8.wrap (16 * (dx : Int) + dy) = 16 * dx + dy := by simp only [IntKind.wrap, IntKind.bits, IntKind.signed]; simp; omega
            have t1 : IntKind.i64.wrap ((p : Int) + 1) = p + 1 := by rw [IntKind.wrap_i64]; omega
            have t2 : (0 : Int) ≤ (p : Int) + 1 := by omega
            have t3 : ((p : Int) + 1).toNat = p + 1 := by omega
            have t4 : (p : Int) + 1 < (l.length : Int) := by omega
            clear ex ey
            go_region_law (first | (go_simp; go_at_call 48; (with_reducible refine (hdx _).mono ?_); rintro e w9 ⟨rfl, rfl⟩) | (go_simp; go_at_call 48; (with_reducible refine (hdy _).mono ?_); rintro e w9 ⟨rfl, rfl⟩) | (refine step_append_lies _ rfl (.tmp 34) (.tmp 47) 47 rfl w.heap.size 5 i0 (.int .u8 0) 1 1 Tryd.underlying47 hi hz0 hz1 hz2 rfl (by decide) (.slice A5 (p / 2) c5) (p / 2) _ (by simp [Act.eval]) ((HO.out.alloc _).drew) ⟨wr.heap.size, 0, none⟩ 1 1 [.int .u8 (16 * dx + dy)] (by simp [Act.eval]) rfl one_new (by intro u hu; simp at hu; subst hu; rfl) (by decide) (by unfold maxLen; omega) (by omega) (by have := HR.out.size; simp; omega) _ rfl ?_; rintro g cap w4 hown hgr - -; have HO4 := hide hown; have HG4 := hide hgr; clear hown hgr))
            clear s1 s2 s3 t1 t2 t3 t4
            all_goals
              go_wp2
              go_roundw
              case rel =>
                have e : (p + 2) / 2 = p / 2 + 1 := by omega
                refine ⟨p + 2, by omega, by omega, by go_num, ?_, hide (chg_append_drew HR.out HO.out _ HG4.out), hide ?_⟩
                · rw [e, HT.out, HU.out, u8n_snoc, HEX.out, HEY.out]
                  have h := HO4.out
                  simpa using hide h
                · rw [HT.out]
                  intro z hz
                  simp only [List.mem_append, List.mem_singleton] at hz
                  rcases hz with (hz | rfl) | rfl
                  · exact HD.out z hz
                  · rw [HEX.out]; omega
                  · rw [HEY.out]; omega
              case measure => simp [intOf]; omega
    · have hk2 : p = l.length := by omega
      subst hk2
      go_wp2
      go_ret2
      have h1 := HO.out
      have h2 := HD.out
      rw [List.take_length] at h1 h2
      have HX := unhex_pair l hp2 h2
      unfold UnhexP dataL
      rw [if_neg H45.out, HX]
      obtain ⟨t1, t2⟩ := ty8_own h1
      refine ⟨_, rfl, ?_, HR.out, t2, t1⟩
      show Sl wr _ (Lib.byteCells ((pairN l).map UInt8.ofNat))
      rw [← u8n_bytes _ (pairN_small l)]
      exact Sl.own h1
set_option maxRecDepth 100000 in
theorem runhex_dash (w : World) : Calls Tryd.prog 37 #[strV [45]] w (UnhexP [45] w) := by
  unfold strV
  go_enter Tryd.func37, Tryd.ntmps37
  go_wp2
  go_ret2
  exact ⟨_, rfl, sl_nil _, Chg.refl _ _, fresh_nil _, ty8_nil _⟩
theorem runhex_calls (l : List UInt8) (w : World) (hl : l.length ≤ 1000000) : Calls Tryd.prog 37 #[strV l] w (UnhexP l w) := by
  by_cases h : l = [45]
  · subst h; exact runhex_dash w
  · exact runhex_main l w hl h
end Go.Proofs.YtidceolaemikgaaDoor
