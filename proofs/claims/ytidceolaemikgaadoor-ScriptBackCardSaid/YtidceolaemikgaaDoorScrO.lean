/- The program's script.Text. -/
import Derived.Test.YtidceolaemikgaaDoorScrN
import Derived.Test.YtidceolaemikgaaDoorScrF
namespace Go.Proofs.YtidceolaemikgaaDoor
open Go.RowKit Go.Deep Go.Shelf
set_option linter.unusedVariables false
attribute [local go_sem] Oper.semAt_some
theorem bld_chg {w w' : World} {T e : TypeId} {B b : Nat} {bs : List Value} (h : Lib.IsBuilderF T e B b bs w) (hc : Chg w w' []) : Lib.IsBuilderF T e B b bs w' := by
  have key : ∀ p, Lib.BuilderAtF T e B b p bs w → Lib.BuilderAtF T e B b p bs w' := by
    rintro p ⟨hB, v, hb, hown, hne⟩
    refine ⟨hB, v, hc.heap hb (by simp), ⟨hown.1, ?_⟩, hne⟩
    rcases hown.2 with h | ⟨g, cap, cur, fz, e1, e2, e3, e4⟩
    · exact .inl h
    · exact .inr ⟨g, cap, cur, fz, e1, e2, hc.heap e3 (by simp), e4⟩
  exact h.imp (key _) (key _)
theorem dsl_open {w : World} {v : Value} {ds : List DeedL} (h : DSl w v ds) : ∃ A c, v = .slice A ds.length c ∧ (0 < ds.length → ∃ b off, A = some ⟨b, off, none⟩ ∧ b < w.heap.size ∧ ∀ k, k < ds.length → ∃ f d, w.cell? ⟨b, off + k * 2, none⟩ = some (.bool f) ∧ w.cell? ⟨b, off + k * 2 + 1, none⟩ = some d ∧ f = (ds.getD k (false, [])).1 ∧ Sl w d (Lib.byteCells (ds.getD k (false, [])).2)) := by
  obtain ⟨A, c, rfl, hx⟩ := h
  refine ⟨A, c, rfl, fun h => ?_⟩
  obtain ⟨b, off, rfl, h2⟩ := hx h
  obtain ⟨f, d, h3, _⟩ := h2 0 h
  exact ⟨b, off, rfl, World.block_lt_of_cell? w _ h3, h2⟩
theorem textL_snoc (ds : List DeedL) (d : DeedL) : textL (ds ++ [d]) = textL ds ++ lineL d ++ [10] := by simp [textL]
theorem lineL_len (d : DeedL) (h : d.2.length ≤ 100) : (lineL d).length ≤ 210 := by
  obtain ⟨f, b⟩ := d
  cases f with
  | false => show resetL.length ≤ 210; decide
  | true =>
    show (feedL ++ [32] ++ hexL b).length ≤ 210
    have h : b.length ≤ 100 := h
    have : (hexL b).length ≤ 200 := by
      unfold hexL
      split
      · decide
      · rw [hexB_len]; omega
    simp only [List.length_append]
    have : feedL.length = 4 := rfl
    simp; omega
theorem textL_len : ∀ (ds : List DeedL), (∀ d ∈ ds, d.2.length ≤ 100) → (textL ds).length ≤ 211 * ds.length
  | [], _ => by simp [textL]
  | d :: ds, h => by
    have h1 := lineL_len d (h d (by simp))
    have h2 := textL_len ds (fun x hx => h x (by simp [hx]))
    show (lineL d ++ [10] ++ textL ds).length ≤ _
    simp only [List.length_append, List.length_cons, List.length_nil]
    omega
theorem dtake_at (ds : List DeedL) (k : Nat) (h : k < ds.length) : ds.take (k + 1) = ds.take k ++ [ds.getD k (false, [])] := by
  rw [List.take_add_one, List.getElem?_eq_getElem h]
  simp [h]
theorem strCells_mk (l : List UInt8) : Lib.strCells ⟨l.toArray⟩ = Lib.byteCells l := rfl
theorem byteCells_append (a b : List UInt8) : Lib.byteCells (a ++ b) = Lib.byteCells a ++ Lib.byteCells b := by simp [Lib.byteCells]
theorem lit_append (a b : List UInt8) (A B : ByteArray) (hA : A = ⟨a.toArray⟩) (hB : B = ⟨b.toArray⟩) : A ++ B = ⟨(a ++ b).toArray⟩ := by
  subst hA hB
  exact bytes_append a b
def textR (ds : List DeedL) : List UInt8 × Nat := if 1000 < ds.length then ([], 5) else (textL ds, 0)
set_option maxRecDepth 100000 in
theorem text_calls (ds : List DeedL) (v : Value) (w : World) (hl : ds.length ≤ 1100) (hd : ∀ d ∈ ds, d.2.length ≤ 100) (hs : DSl w v ds) :
    Calls Tryd.prog 24 #[v] w fun e w' => e = .returned (.tuple #[strV (textR ds).1, .int .i64 (textR ds).2]) ∧ Below w.heap.size w w' := by
  obtain ⟨A, c, rfl, hx⟩ := dsl_open hs
  by_cases h0 : 1000 < ds.length
  · have e : textR ds = ([], 5) := by unfold textR; rw [if_pos h0]
    rw [e]
    have hz : decide (1000 < (ds.length : Int)) = true := by simp; omega
    have hz2 : decide (1000 < ds.length) = true := by simp; omega
    clear e hd hs hx
    go_enter Tryd.func24, Tryd.ntmps24
    go_wp2
    go_ret2
    exact ⟨rfl, Below.refl _ _⟩
  · have e : textR ds = (textL ds, 0) := by unfold textR; rw [if_neg h0]
    have hz : decide (1000 < (ds.length : Int)) = false := by simp; omega
    have hz2 : decide (1000 < ds.length) = false := by simp; omega
    rw [e]
    have HX := hide hx
    have HD := hide hd
    have HB := hide (Lib.IsBuilderF.of (Lib.fresh_isBuilder TB T8 w))
    have HBL := hide ((Below.refl w.heap.size w).alloc (Nat.le_refl _) (.cells #[.pointer none, .slice none 0 0] TB))
    clear hx hd hs h0 e
    go_enter Tryd.func24, Tryd.ntmps24
    go_wp2
    generalize w.alloc (.cells #[.pointer none, .slice none 0 0] TB) = w1 at *
    go_loopw [12] (fun i wr => ∃ k : Nat, k ≤ ds.length ∧ i = .int .i64 k ∧ Hid (Lib.IsBuilderF TB T8 w.heap.size w.heap.size (Lib.byteCells (textL (ds.take k))) wr) ∧ Hid (Below w.heap.size w wr)) (fun i _ => ds.length - (intOf i).toNat)
    case atStart => exact ⟨0, Nat.zero_le _, rfl, HB, HBL⟩
    case round =>
      obtain ⟨k, hk, rfl, HI, HR⟩ := hrel
      by_cases hlt : k < ds.length
      · obtain ⟨b, off, rfl, hbl, h2⟩ := HX.out (by omega)
        obtain ⟨f, d, hc1, hc2, hf, hsd⟩ := h2 k hlt
        have hca := (HR.out.cell (p := ⟨b, off + k * 2, none⟩) hbl).trans hc1
        have hcb := (HR.out.cell (p := ⟨b, off + k * 2 + 1, none⟩) hbl).trans hc2
        have hmem : ds.getD k (false, []) ∈ ds := by simp [hlt]
        have hd100 := HD.out _ hmem
        have hln := lineL_len _ hd100
        have HT : Hid (textL (ds.take (k + 1)) = textL (ds.take k) ++ lineL (ds.getD k (false, [])) ++ [10]) := hide (by rw [dtake_at ds k hlt, textL_snoc])
        have htl := textL_len (ds.take k) (fun x hx => HD.out x (List.mem_of_mem_take hx))
        rw [List.length_take] at htl
        have HS := hide (hsd.chg (Chg.of_below (D := []) HR.out) (by simp))
        have hbw : b < wr.heap.size := by have := HR.out.size; omega
        have htl2 : (textL (ds.take k)).length ≤ 300000 := by omega
        clear h2 hc1 hc2 hsd hmem htl
        generalize ds.getD k (false, []) = dx at *
        obtain ⟨f1, bs⟩ := dx
        have hf : f = f1 := hf
        subst hf
        have HS : Hid (Sl wr d (Lib.byteCells bs)) := HS
        have hbs : bs.length ≤ 100 := hd100
        obtain ⟨A2, c2, rfl, hx2⟩ := bytes_open HS.out
        clear hx2 hd100
        have hbl0 : (Lib.byteCells (textL (ds.take k))).length ≤ 300000 := by rw [Lib.byteCells_length]; exact htl2
        clear htl2
        cases f with
        | true =>
          have hhx := hex_calls bs _ (wr.alloc (.cells #[.bool true, .slice A2 bs.length c2] 49)) (by omega) (HS.out.chg ((Chg.refl wr []).alloc _) (by simp))
          have hln2 : (hexL bs).length ≤ 205 := by
            have e : (lineL (true, bs)).length = 5 + (hexL bs).length := by
              show (feedL ++ [32] ++ hexL bs).length = _
              simp [feedL]; omega
            omega
          go_wp2_with fail
          go_at_call 39
          refine hhx.mono ?_
          unfold strV
          rintro e w2 ⟨rfl, hb2⟩
          have hc2 : Chg wr w2 [] := ((Chg.refl wr []).alloc _).trans (Chg.of_below (D := []) hb2) (by simp)
          have HI2 := hide (bld_chg HI.out hc2)
          have HR2 := hide (HR.out.trans (hc2.to_below.mono HR.out.size))
          have HSZ := hide HR2.out.size
          clear hb2 hc2 hhx
          go_wp2_with fail
          go_at_call 38
          refine (writeString_calls w.heap.size w.heap.size _ _ w2 HI2.out ?_ HSZ.out).mono ?_
          · simp [ByteArray.size]; omega
          rintro e w3 ⟨rfl, hi3, hb3⟩
          have HI3 := hide hi3
          have HR3 := hide (HR2.out.trans hb3)
          clear hi3 hb3
          go_wp2
          go_roundw
          case rel =>
            refine ⟨k + 1, by omega, by go_num, hide ?_, HR3⟩
            have h := HI3.out
            rw [lit_append (feedL ++ [32] ++ hexL bs) [10] (⟨#[102, 101, 101, 100, 32]⟩ ++ ⟨(hexL bs).toArray⟩) ⟨#[10]⟩ (lit_append (feedL ++ [32]) (hexL bs) ⟨#[102, 101, 101, 100, 32]⟩ ⟨(hexL bs).toArray⟩ rfl rfl) rfl, strCells_mk, ← byteCells_append] at h
            rw [HT.out]
            rw [List.append_assoc]
            exact h
          case measure => simp [intOf]; omega
        | false =>
          have HI2 := hide (bld_chg HI.out ((Chg.refl wr []).alloc (.cells #[.bool false, .slice A2 bs.length c2] 49)))
          have HR2 := hide (HR.out.alloc HR.out.size (.cells #[.bool false, .slice A2 bs.length c2] 49))
          go_wp2_with fail
          go_at_call 38
          refine (writeString_calls w.heap.size w.heap.size _ _ _ HI2.out ?_ HR2.out.size).mono ?_
          · show _ + 6 ≤ _; omega
          rintro e w3 ⟨rfl, hi3, hb3⟩
          have HI3 := hide hi3
          have HR3 := hide (HR2.out.trans hb3)
          clear hi3 hb3
          go_wp2
          go_roundw
          case rel =>
            refine ⟨k + 1, by omega, by go_num, hide ?_, HR3⟩
            have h : Lib.IsBuilderF TB T8 w.heap.size w.heap.size (Lib.byteCells (textL (ds.take k)) ++ Lib.strCells ⟨(resetL ++ [10]).toArray⟩) w3 := HI3.out
            rw [strCells_mk, ← byteCells_append] at h
            rw [HT.out, List.append_assoc]
            exact h
          case measure => simp [intOf]; omega
      · have hk2 : k = ds.length := by omega
        subst hk2
        rw [List.take_length] at HI
        go_wp2_with fail
        go_at_call 40
        refine (Tryd.Builder_String_any_k w.heap.size w.heap.size _ wr HI.out HR.out.size).mono ?_
        rintro e w2 ⟨rfl, _, hb2, _⟩
        go_wp2
        go_ret2
        exact ⟨rfl, HR.out.trans hb2⟩
end Go.Proofs.YtidceolaemikgaaDoor
