/- Deeds in the reference: their text, and whether two lists are the same. -/
import Derived.Test.YtidceolaemikgaaDoorScrP
namespace Go.Proofs.YtidceolaemikgaaDoor
open Go.RowKit Go.Deep Go.Shelf
set_option linter.unusedVariables false
attribute [local go_sem] Oper.semAt_some
set_option maxRecDepth 100000 in
theorem rtext_calls (ds : List DeedL) (v : Value) (w : World) (hl : ds.length ≤ 1100) (hd : ∀ d ∈ ds, d.2.length ≤ 100) (hs : DSl w v ds) :
    Calls Tryd.prog 25 #[v] w fun e w' => e = .returned (.tuple #[strV (textR ds).1, .int .i64 (textR ds).2]) ∧ Chg w w' [] := by
  obtain ⟨A, c, rfl, hx⟩ := dsl_open hs
  by_cases h0 : 1000 < ds.length
  · have e : textR ds = ([], 5) := by unfold textR; rw [if_pos h0]
    rw [e]
    have hz : decide (1000 < (ds.length : Int)) = true := by simp; omega
    have hz2 : decide (1000 < ds.length) = true := by simp; omega
    clear e hd hs hx
    go_enter Tryd.func25, Tryd.ntmps25
    go_wp2
    go_ret2
    exact ⟨rfl, Chg.refl _ _⟩
  · have e : textR ds = (textL ds, 0) := by unfold textR; rw [if_neg h0]
    have hz : decide (1000 < (ds.length : Int)) = false := by simp; omega
    have hz2 : decide (1000 < ds.length) = false := by simp; omega
    rw [e]
    have HX := hide hx
    have HD := hide hd
    clear hx hd hs h0 e
    go_enter Tryd.func25, Tryd.ntmps25
    go_wp2
    go_loopw [4, 5] (fun s i wr => ∃ k : Nat, k ≤ ds.length ∧ i = .int .i64 k ∧ s = .string ⟨(textL (ds.take k)).toArray⟩ ∧ Hid (Chg w wr [])) (fun _ i _ => ds.length - (intOf i).toNat)
    case atStart => exact ⟨0, Nat.zero_le _, rfl, rfl, hide (Chg.refl _ _)⟩
    case round =>
      obtain ⟨k, hk, rfl, rfl, HR⟩ := hrel
      by_cases hlt : k < ds.length
      · obtain ⟨b, off, rfl, hbl, h2⟩ := HX.out (by omega)
        obtain ⟨f, d, hc1, hc2, hf, hsd⟩ := h2 k hlt
        have hca := HR.out.cell hc1 (by simp)
        have hcb := HR.out.cell hc2 (by simp)
        have hmem : ds.getD k (false, []) ∈ ds := by simp [hlt]
        have hd100 := HD.out _ hmem
        have hln := lineL_len _ hd100
        have HT : Hid (textL (ds.take (k + 1)) = textL (ds.take k) ++ lineL (ds.getD k (false, [])) ++ [10]) := hide (by rw [dtake_at ds k hlt, textL_snoc])
        have htl := textL_len (ds.take k) (fun x hx => HD.out x (List.mem_of_mem_take hx))
        rw [List.length_take] at htl
        have HS := hide (hsd.chg HR.out (by simp))
        have htl2 : (textL (ds.take k)).length ≤ 300000 := by omega
        clear h2 hc1 hc2 hsd hmem htl
        generalize ds.getD k (false, []) = dx at *
        obtain ⟨f1, bs⟩ := dx
        have hf : f = f1 := hf
        subst hf
        have HS : Hid (Sl wr d (Lib.byteCells bs)) := HS
        have hbs : bs.length ≤ 100 := hd100
        obtain ⟨A2, c2, rfl, hx2⟩ := bytes_open HS.out
        clear hx2 hd100
        cases f with
        | true =>
          have hhx := rhex_calls bs _ wr (by omega) HS.out
          have hln2 : (hexL bs).length ≤ 205 := by
            have e : (lineL (true, bs)).length = 5 + (hexL bs).length := by
              show (feedL ++ [32] ++ hexL bs).length = _
              simp [feedL]; omega
            omega
          go_wp2_with fail
          go_at_call 41
          refine hhx.mono ?_
          unfold strV
          rintro e w2 ⟨rfl, hc2⟩
          have HR2 := hide (HR.out.trans hc2 (by simp))
          clear hc2 hhx
          go_wp2
          go_roundw
          case rel =>
            refine ⟨k + 1, by omega, by go_num, ?_, HR2⟩
            rw [HT.out]
            refine congrArg Value.string ?_
            refine Eq.trans (lit_append (textL (ds.take k) ++ (feedL ++ [32]) ++ hexL bs) [10] _ _ (lit_append (textL (ds.take k) ++ (feedL ++ [32])) (hexL bs) _ _ (bytes_append (textL (ds.take k)) (feedL ++ [32])) rfl) rfl) ?_
            simp only [lineL, if_true, List.append_assoc]
          case measure => simp [intOf]; omega
        | false =>
          go_wp2
          go_roundw
          case rel =>
            refine ⟨k + 1, by omega, by go_num, ?_, HR⟩
            rw [HT.out]
            refine congrArg Value.string ?_
            show _ = (⟨(textL (ds.take k) ++ resetL ++ [10]).toArray⟩ : ByteArray)
            rw [List.append_assoc]
            exact bytes_append (textL (ds.take k)) (resetL ++ [10])
          case measure => simp [intOf]; omega
      · have hk2 : k = ds.length := by omega
        subst hk2
        rw [List.take_length]
        go_wp2
        go_ret2
        exact ⟨rfl, HR.out⟩
theorem sameL_len : ∀ (a b : List DeedL), a.length ≠ b.length → sameL a b = false
  | [], [], h => absurd rfl h
  | [], _ :: _, _ => rfl
  | _ :: _, [], _ => rfl
  | a :: ar, b :: bs, h => by
    rw [sameL, sameL_len ar bs (by simpa using h)]
    simp
def oneB (a b : DeedL) : Bool := (a.1 == b.1) && (!a.1 || a.2 == b.2)
theorem sameL_at : ∀ (a b : List DeedL) (k : Nat), a.length = b.length → k < a.length → oneB (a.getD k (false, [])) (b.getD k (false, [])) = false → sameL a b = false
  | [], [], k, _, h, _ => by simp at h
  | [], _ :: _, _, h, _, _ => by simp at h
  | _ :: _, [], _, h, _, _ => by simp at h
  | a :: ar, b :: bs, 0, _, _, h => by
    rw [sameL]
    have h : oneB a b = false := h
    unfold oneB at h
    rw [h]; rfl
  | a :: ar, b :: bs, k + 1, hl, hk, h => by
    rw [sameL, sameL_at ar bs k (by simpa using hl) (by simpa using hk) (by simpa using h)]
    simp
theorem sameL_all : ∀ (a b : List DeedL), a.length = b.length → (∀ k, k < a.length → oneB (a.getD k (false, [])) (b.getD k (false, [])) = true) → sameL a b = true
  | [], [], _, _ => rfl
  | [], _ :: _, h, _ => by simp at h
  | _ :: _, [], h, _ => by simp at h
  | a :: ar, b :: bs, hl, h => by
    rw [sameL, sameL_all ar bs (by simpa using hl) (fun k hk => by simpa using h (k + 1) (by simpa using hk))]
    have h0 : oneB a b = true := h 0 (by simp)
    unfold oneB at h0
    rw [h0]; rfl
end Go.Proofs.YtidceolaemikgaaDoor
