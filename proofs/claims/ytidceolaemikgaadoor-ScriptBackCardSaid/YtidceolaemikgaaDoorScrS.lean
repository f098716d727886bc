/- Whether two lists of deeds are the same: the reference's. -/
import Derived.Test.YtidceolaemikgaaDoorScrR
import Derived.Test.YtidceolaemikgaaDoorBs
namespace Go.Proofs.YtidceolaemikgaaDoor
open Go.RowKit Go.Deep Go.Shelf
set_option linter.unusedVariables false
attribute [local go_sem] Oper.semAt_some
theorem oneB_diff {a b : DeedL} (h : a.1 ≠ b.1) : oneB a b = false := by
  unfold oneB
  rw [beq_eq_false_iff_ne.2 h]; rfl
theorem oneB_off {a b : DeedL} (h : a.1 = false) (h2 : b.1 = false) : oneB a b = true := by
  unfold oneB
  rw [h, h2]; rfl
theorem oneB_on {a b : DeedL} (h : a.1 = true) (h2 : b.1 = true) : oneB a b = (a.2 == b.2) := by
  unfold oneB
  rw [h, h2]; rfl
set_option maxRecDepth 100000 in
set_option maxHeartbeats 1000000 in
theorem same_calls (as_ bs_ : List DeedL) (va vb : Value) (w : World) (hla : as_.length ≤ 1000000) (hlb : bs_.length ≤ 1000000) (ha : DSl w va as_) (hb : DSl w vb bs_) :
    Calls Tryd.prog 26 #[va, vb] w fun e w' => e = .returned (.bool (sameL as_ bs_)) ∧ Chg w w' [] := by
  obtain ⟨Aa, ca, rfl, hxa⟩ := dsl_open ha
  obtain ⟨Ab, cb, rfl, hxb⟩ := dsl_open hb
  by_cases hlen : as_.length = bs_.length
  · have HL := hide hlen
    have HXA := hide hxa
    have HXB := hide hxb
    have hz : ((as_.length : Int) != (bs_.length : Int)) = false := by simp [hlen]
    have hz2 : (as_.length != bs_.length) = false := by simp [hlen]
    clear hxa hxb ha hb
    rw [← hlen]
    rw [← hlen] at hz hz2
    clear hlen
    go_enter Tryd.func26, Tryd.ntmps26
    go_wp2
    go_loopw [5] (fun i wr => ∃ k : Nat, k ≤ as_.length ∧ i = .int .i64 k ∧ Hid (Chg w wr []) ∧ Hid (∀ j, j < k → oneB (as_.getD j (false, [])) (bs_.getD j (false, [])) = true)) (fun i _ => as_.length - (intOf i).toNat)
    case atStart => exact ⟨0, Nat.zero_le _, rfl, hide (Chg.refl _ _), hide (by intro j h; omega)⟩
    case round =>
      obtain ⟨k, hk, rfl, HR, HI⟩ := hrel
      by_cases hlt : k < as_.length
      · obtain ⟨b, off, rfl, hbl, h2⟩ := HXA.out (by omega)
        obtain ⟨b', off', rfl, hbl', h2'⟩ := HXB.out (by have := HL.out; omega)
        obtain ⟨f, d, hc1, hc2, hf, hsd⟩ := h2 k hlt
        obtain ⟨f', d', hc1', hc2', hf', hsd'⟩ := h2' k (by have := HL.out; omega)
        have hca := HR.out.cell hc1 (by simp)
        have hcb := HR.out.cell hc2 (by simp)
        have hca' := HR.out.cell hc1' (by simp)
        have hcb' := HR.out.cell hc2' (by simp)
        have HS := hide (hsd.chg HR.out (by simp))
        have HS' := hide (hsd'.chg HR.out (by simp))
        have HN : Hid (oneB (as_.getD k (false, [])) (bs_.getD k (false, [])) = true → ∀ j, j < k + 1 → oneB (as_.getD j (false, [])) (bs_.getD j (false, [])) = true) := hide (fun h j hj => by
          by_cases e : j = k
          · subst e; exact h
          · exact HI.out j (by omega))
        have HF : Hid (oneB (as_.getD k (false, [])) (bs_.getD k (false, [])) = false → sameL as_ bs_ = false) := hide (fun h => sameL_at as_ bs_ k HL.out hlt h)
        clear h2 h2' hc1 hc2 hc1' hc2' hsd hsd'
        generalize as_.getD k (false, []) = da at *
        generalize bs_.getD k (false, []) = db at *
        obtain ⟨fa, la⟩ := da
        obtain ⟨fb, lb⟩ := db
        have hf : f = fa := hf
        have hf' : f' = fb := hf'
        subst hf hf'
        have hcv : ∀ n, (convert 47 9 d).run Tryd.prog (wr.drewN n) = .ok (.string ⟨la.toArray⟩) (wr.drewN n) := fun n => conv_str (HS.out.drewN n)
        have hcv' : ∀ n, (convert 47 9 d').run Tryd.prog (wr.drewN n) = .ok (.string ⟨lb.toArray⟩) (wr.drewN n) := fun n => conv_str (HS'.out.drewN n)
        obtain ⟨A2, c2, rfl, hx2⟩ := bytes_open HS.out
        obtain ⟨A3, c3, rfl, hx3⟩ := bytes_open HS'.out
        clear hx2 hx3
        cases f with
        | true =>
          cases f' with
          | true =>
            by_cases he : la = lb
            · have HE := hide (HN.out (by rw [oneB_on rfl rfl]; exact beq_iff_eq.2 he))
              have hx : (la != lb) = false := by simp [he]
              have hx' : (la == lb) = true := by simp [he]
              clear he
              go_wp2
              go_quiet (fail)
              go_wp2
              go_roundw
              case rel => exact ⟨k + 1, by omega, by go_num, hide (HR.out.drewN _), HE⟩
              case measure => simp [intOf]; omega
            · have HE := hide (HF.out (by rw [oneB_on rfl rfl]; exact beq_eq_false_iff_ne.2 he))
              have hx : (la != lb) = true := by simpa using he
              have hx' : (la == lb) = false := by simpa using he
              clear he
              go_wp2
              go_quiet (fail)
              go_wp2
              go_ret
              exact ⟨ret_bool HE.out.symm, HR.out.drewN _⟩
          | false =>
            have HE := hide (HF.out (oneB_diff (by simp)))
            go_wp2
            go_quiet (fail)
            go_wp2
            go_ret
            exact ⟨ret_bool HE.out.symm, HR.out.drewN _⟩
        | false =>
          cases f' with
          | true =>
            have HE := hide (HF.out (oneB_diff (by simp)))
            go_wp2
            go_quiet (fail)
            go_wp2
            go_ret
            exact ⟨ret_bool HE.out.symm, HR.out.drewN _⟩
          | false =>
            have HE := hide (HN.out (oneB_off rfl rfl))
            go_wp2
            go_quiet (fail)
            go_wp2
            go_roundw
            case rel => exact ⟨k + 1, by omega, by go_num, hide (HR.out.drewN _), HE⟩
            case measure => simp [intOf]; omega
      · have hk2 : k = as_.length := by omega
        subst hk2
        have HE := hide (sameL_all as_ bs_ HL.out HI.out)
        go_wp2
        go_ret
        exact ⟨ret_bool HE.out.symm, HR.out⟩
  · have HE := hide (sameL_len as_ bs_ hlen)
    have hz : ((as_.length : Int) != (bs_.length : Int)) = true := by simp; omega
    have hz2 : (as_.length != bs_.length) = true := by simpa using hlen
    clear hxa hxb ha hb hlen
    go_enter Tryd.func26, Tryd.ntmps26
    go_wp2
    go_ret
    exact ⟨ret_bool HE.out.symm, Chg.refl _ _⟩
end Go.Proofs.YtidceolaemikgaaDoor
