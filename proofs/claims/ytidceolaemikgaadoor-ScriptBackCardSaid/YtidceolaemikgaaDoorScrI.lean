/- A word's bytes: the walk of the program's unhex. -/
import Derived.Test.YtidceolaemikgaaDoorScrH
import Derived.Test.YtidceolaemikgaaDoorScrC
namespace Go.Proofs.YtidceolaemikgaaDoor
open Go.RowKit Go.Deep Go.Shelf
set_option linter.unusedVariables false
attribute [local go_sem] Oper.semAt_some
def padN (l : List UInt8) (n : Nat) : List Nat := pairN l ++ List.replicate (n - (pairN l).length) 0
theorem padN_next (l : List UInt8) (pos n : Nat) (hn : l.length = 2 * n) (hp : pos < l.length) :
    padN (l.take (pos + 1)) n = (padN (l.take pos) n).set (pos / 2) (16 * (padN (l.take pos) n).getD (pos / 2) 0 + (digV (l.getD pos 0)).toNat) ∧ (padN (l.take pos) n).getD (pos / 2) 0 < 16 := by
  have ht : (l.take pos).length = pos := by rw [List.length_take]; omega
  have e : l.take (pos + 1) = l.take pos ++ [l.getD pos 0] := by
    have := take_at l 0 pos hp (Nat.zero_le _)
    simpa using this
  have hl := pairN_len (l.take pos)
  rw [ht] at hl
  rw [e]
  unfold padN
  rw [pairN_snoc, ht]
  by_cases h2 : pos % 2 = 0
  · rw [if_pos h2]
    have h0 : (pairN (l.take pos)).length = pos / 2 := by omega
    have hr : n - (pairN (l.take pos)).length = (n - (pairN (l.take pos)).length - 1) + 1 := by omega
    have hg : (pairN (l.take pos) ++ List.replicate (n - (pairN (l.take pos)).length) 0).getD (pos / 2) 0 = 0 := by
      rw [← h0, hr, List.replicate_succ]
      simp
    rw [hg]
    refine ⟨?_, by omega⟩
    rw [← h0, List.set_append_right _ _ (Nat.le_refl _), Nat.sub_self]
    conv => rhs; rw [hr, List.replicate_succ]
    simp
    omega
  · rw [if_neg h2]
    have h0 : pos / 2 < (pairN (l.take pos)).length := by omega
    have hg : (pairN (l.take pos) ++ List.replicate (n - (pairN (l.take pos)).length) 0).getD (pos / 2) 0 = (pairN (l.take pos)).getD (pos / 2) 0 := by
      simp only [List.getD_eq_getElem?_getD]
      rw [List.getElem?_append_left h0]
    rw [hg]
    refine ⟨?_, ?_⟩
    · rw [List.set_append_left _ _ h0, List.length_set]
    · have h1 : (l.take pos) = (l.take (pos - 1)) ++ [l.getD (pos - 1) 0] := by
        have := take_at l 0 (pos - 1) (by omega) (Nat.zero_le _)
        rw [show pos - 1 + 1 = pos by omega] at this
        simpa using this
      have ht1 : (l.take (pos - 1)).length = pos - 1 := by rw [List.length_take]; omega
      have hl1 := pairN_len (l.take (pos - 1))
      rw [ht1] at hl1
      rw [h1, pairN_snoc, ht1, if_pos (by omega)]
      have h3 : pos / 2 = (pairN (l.take (pos - 1))).length := by omega
      rw [h3]
      have hd := digV_range (l.getD (pos - 1) 0)
      generalize l.getD (pos - 1) 0 = q at *
      simp
      omega
theorem padN_len (l : List UInt8) (n : Nat) (h : l.length ≤ 2 * n) : (padN l n).length = n := by
  unfold padN
  rw [List.length_append, List.length_replicate, pairN_len]
  omega
theorem u8n_at (l : List Nat) (k : Nat) (h : k < l.length) : (u8n l)[k]? = some (.int .u8 (l.getD k 0 : Nat)) := by
  unfold u8n
  simp [h]
theorem u8n_set (l : List Nat) (k x : Nat) : u8n (l.set k x) = (u8n l).set k (.int .u8 x) := by simp [u8n, List.map_set]
theorem u8n_zeros (n : Nat) : u8n (padN [] n) = zeros (.int .u8 0) n := by simp [u8n, padN, pairN, zeros]
theorem info_u8 : (Tryd.prog.info? 5).map (fun i => (i.zero, i.size, i.bytes)) = some (some (.int .u8 0), 1, 1) := by kernel_rfl
theorem make_u8 (n : Nat) (w : World) (hl : n ≤ 500000) : (Instr.makeSlice 47 (.int .i64 n) (.int .i64 n)).run Tryd.prog w = .ok (.slice (some ⟨w.heap.size, 0, none⟩) n n) (w.alloc (.cells (u8n (padN [] n)).toArray 5)) := by
  obtain ⟨i0, hi, hz0, hz1, hz2⟩ := info_parts info_u8
  have h := run_makeSlice (P := Tryd.prog) w 47 5 i0 (.int .u8 0) Tryd.underlying47 hi hz0 .i64 .i64 n n (by omega) (by omega) (by rw [hz1]; omega) (by rw [hz2]; omega) (by omega)
  rw [h, hz1, u8n_zeros, ← madeCells_zeros]
  simp [Value.cells]
theorem or_nib_all : ∀ c, c < 16 → ∀ m, m < 16 → bits BinOp.or IntKind.u8 (((c : Nat) : Int) * 16) ((m : Nat) : Int) = ((16 * c + m : Nat) : Int) := by decide +kernel
theorem or_nib (c m : Nat) (hc : c < 16) (hm : m < 16) : bits BinOp.or IntKind.u8 ((c : Int) * 16) (m : Int) = ((16 * c + m : Nat) : Int) := or_nib_all c hc m hm
/-- A slice's row is new. -/
def Fresh (w : World) (v : Value) : Prop := ∀ A n c, v = .slice (some A) n c → w.heap.size ≤ A.block
/-- A slice's row is one of bytes. -/
def Ty8 (w : World) (v : Value) : Prop := ∀ A n c, v = .slice (some A) n c → ∃ cur, w.heap[A.block]? = some (.cells cur 5 (0, 0))
theorem ty8_nil (w : World) : Ty8 w (.slice none 0 0) := fun A n c h => by cases h
theorem Ty8.chg {w w' : World} {v : Value} {D : List Nat} (h : Ty8 w v) (hc : Chg w w' D) (hD : ∀ A n c, v = .slice (some A) n c → A.block ∉ D) : Ty8 w' v := fun A n c e => by
  obtain ⟨cur, hcur⟩ := h A n c e
  exact ⟨cur, hc.heap hcur (hD A n c e)⟩
theorem fresh_nil (w : World) : Fresh w (.slice none 0 0) := fun A n c h => by cases h
set_option maxRecDepth 100000 in
theorem unhex_main (l : List UInt8) (n : Nat) (w : World) (hl : n ≤ 500000) (hn : l.length = 2 * n) (h45 : l ≠ [45]) :
    Calls Tryd.prog 47 #[strV l] w fun e w' => ∃ v, e = .returned (.tuple #[v, .bool (unhexL l).isSome]) ∧ Sl w' v (Lib.byteCells ((unhexL l).getD [])) ∧ Chg w w' [] ∧ Fresh w v ∧ Ty8 w' v := by
  have hx0 : (l == [45]) = false := by simpa using h45
  have hsz : (⟨l.toArray⟩ : ByteArray).size = 2 * n := by rw [← hn]; rfl
  have hmk := make_u8 n w hl
  unfold strV
  go_enter Tryd.func47, Tryd.ntmps47
  go_wp2
  generalize hB : w.heap.size = B at *
  have HN := hide hn
  have H45 := hide h45
  clear hmk hx0 hn h45
  go_loopw [] (fun wr => ∃ pos : Nat, pos ≤ 2 * n ∧ Hid (Blk wr B 5 (u8n (padN (l.take pos) n))) ∧ wr.heap[B + 1]? = some (.stringIter ⟨l.toArray⟩ pos) ∧ Hid (Below B w wr) ∧ Hid (∀ x ∈ l.take pos, 0 ≤ digV x)) (fun wr => 2 * n - wr.iterPos (B + 1))
  case atStart =>
    have h1 : Below B w (w.alloc (.cells (u8n (padN [] n)).toArray 5)) := by rw [← hB]; exact (Below.refl _ w).alloc (Nat.le_refl _) _
    have h2 : Blk (w.alloc (.cells (u8n (padN [] n)).toArray 5)) B 5 (u8n (padN [] n)) := by rw [← hB]; exact Blk.new w _ _
    have h3 : (w.alloc (.cells (u8n (padN [] n)).toArray 5)).heap.size = B + 1 := by rw [size_alloc, hB]
    generalize w.alloc (.cells (u8n (padN [] n)).toArray 5) = w1 at *
    refine ⟨0, Nat.zero_le _, hide (h2.alloc _), ?_, hide (h1.alloc (by omega) _), hide (by simp)⟩
    have := World.iter_heap w1 ⟨l.toArray⟩ 0
    rw [h3] at this
    exact this
  case round =>
    obtain ⟨pos, hpos, HB, hit, HR, HD⟩ := hrel
    by_cases hp : pos < 2 * n
    · have hp' : pos < (⟨l.toArray⟩ : ByteArray).size := by rw [hsz]; exact hp
      have hpl : pos < l.length := by have := HN.out; omega
      have hxq : (⟨l.toArray⟩ : ByteArray)[pos]'hp' = l.getD pos 0 := by
        show l.toArray[pos] = _
        simp [hpl]
      have hnx : ∀ ty, (Instr.next (.pointer (some ⟨B + 1, 0, none⟩)) true ty).run Tryd.prog wr = _ := fun ty => Lib.run_next_any_at wr (B + 1) ⟨l.toArray⟩ pos ty hit hp'
      have hd1 := decode_le ⟨l.toArray⟩ pos
      have hit2 := Lib.iterAt_heap wr (B + 1) ⟨l.toArray⟩ pos (pos + (Utf8.decode ⟨l.toArray⟩ pos).2) hit
      have hlt1 : B + 1 < wr.heap.size := lt_of_heap hit
      by_cases hd : 0 ≤ digV (l.getD pos 0)
      · have hlow := digV_low _ hd
        have hdec : Utf8.decode ⟨l.toArray⟩ pos = ((l.getD pos 0).toNat, 1) := by
          rw [decode_ascii _ pos hp' (by rw [hxq]; exact hlow), hxq]
        rw [hdec] at hnx hit2
        have hPN := padN_next l pos n HN.out hpl
        have hDn : Hid (∀ x ∈ l.take (pos + 1), 0 ≤ digV x) := hide (by
          intro x hx
          have e := take_at l 0 pos hpl (Nat.zero_le _)
          simp only [List.drop_zero] at e
          rw [e, List.mem_append] at hx
          rcases hx with hx | hx
          · exact HD.out x hx
          · simp at hx; rw [hx]; simpa using hd)
        have hB2 : Hid (Blk (wr.iterAt (B + 1) ⟨l.toArray⟩ (pos + 1)) B 5 (u8n (padN (l.take pos) n))) := hide ((Lib.iterAt_other wr (B + 1) B _ _ (by omega)).trans HB.out)
        have hbw2 := hide (Lib.below_iterAt HR.out (k := B + 1) (by omega) ⟨l.toArray⟩ (pos + 1))
        have hsz2 : (wr.iterAt (B + 1) ⟨l.toArray⟩ (pos + 1)).heap.size = wr.heap.size := Lib.iterAt_size ..
        have hdr := digV_range (l.getD pos 0)
        have hidx := indexRune_calls (l.getD pos 0).toNat (wr.iterAt (B + 1) ⟨l.toArray⟩ (pos + 1)) (by omega) (by omega)
        rw [if_pos (by omega), show ((l.getD pos 0).toNat : Int).toNat.toUInt8 = l.getD pos 0 by simp] at hidx
        have hplen := padN_len (l.take pos) n (by rw [List.length_take]; have := HN.out; omega)
        obtain ⟨m, hm⟩ : ∃ m : Nat, digV (l.getD pos 0) = m := ⟨(digV (l.getD pos 0)).toNat, by omega⟩
        rw [hm] at hidx hPN
        have hm15 : m ≤ 15 := by omega
        clear hm hd hdr hdec hxq hlow hp' HD HB
        generalize (l.getD pos 0).toNat = x at *
        have HPN := hide hPN.1
        have hc16 := hPN.2
        clear hPN
        generalize wr.iterAt (B + 1) ⟨l.toArray⟩ (pos + 1) = wi at *
        generalize hC : (padN (l.take pos) n).getD (pos / 2) 0 = c at *
        go_wp2_with (go_at_call 54; refine hidx.mono ?_)
        rintro e w2 rfl hbe
        have hB3 : Blk w2 B 5 (u8n (padN (l.take pos) n)) := hB2.out.chg (Chg.of_below (D := []) (by rw [hsz2]; exact hbe)) (by simp)
        have hit3 : w2.heap[B + 1]? = some (.stringIter ⟨l.toArray⟩ (pos + 1)) := by
          rw [hbe.block (B + 1) hlt1]; exact hit2
        have hbw3 : Hid (Below B w w2) := hide (hbw2.out.trans (hbe.mono (by omega)))
        have hca := hB3.cell' (u8n_at (padN (l.take pos) n) (pos / 2) (by omega))
        rw [hC] at hca
        have hfr := hB3.frozen (pos / 2)
        have HB3 := hide hB3
        have HOR := hide (or_nib c m hc16 (by omega))
        clear hidx hnx hB3 hit2 hbe
        go_wp2
        go_roundw
        case rel =>
          have h4 := HB3.out.set_ (pos / 2) (.int .u8 ((16 * c + m : Nat) : Int))
          rw [← u8n_set] at h4
          have hPN := HPN.out
          simp only [Int.toNat_natCast] at hPN
          rw [← hPN] at h4
          rw [HOR.out]
          refine ⟨pos + 1, by omega, hide h4, ?_, hide (hbw3.out.setCell (p := ⟨B, pos / 2, none⟩) (Nat.le_refl _) _), hDn⟩
          exact (heap_setCell_far _ _ _ _ (by simp)).trans hit3
        case measure =>
          have h5 : (w2.setCell ⟨B, pos / 2, none⟩ (.int .u8 (bits .or .u8 (↑c * 16) ↑m))).heap[B + 1]? = some (.stringIter ⟨l.toArray⟩ (pos + 1)) := (heap_setCell_far _ _ _ _ (by simp)).trans hit3
          simp only [World.iterPos, h5, hit]
          omega
      · have hm1 : digV (l.getD pos 0) = -1 := by have := digV_range (l.getD pos 0); omega
        have hidx : ∀ W : World, Calls Tryd.prog 54 #[.string digB, .int .i32 (Utf8.decode ⟨l.toArray⟩ pos).1] W fun e w' => e = .returned (.int .i64 (-1)) ∧ Below W.heap.size W w' := by
          intro W
          refine (indexRune_calls _ W (by omega) (by omega)).mono ?_
          rintro e w' ⟨rfl, h⟩
          refine ⟨?_, h⟩
          by_cases hx : (l.getD pos 0).toNat < 128
          · rw [decode_ascii _ pos hp' (by rw [hxq]; exact hx), hxq, if_pos (by omega)]
            simp only [Int.toNat_natCast]
            rw [show (l.getD pos 0).toNat.toUInt8 = l.getD pos 0 by simp, hm1]
          · rw [if_neg]
            have := (decode_high _ pos hp' (by rw [hxq]; omega)).1
            omega
        have HX := hide (unhex_bad l (l.getD pos 0) (by simp [hpl]) (by omega))
        have hsz2 : (wr.iterAt (B + 1) ⟨l.toArray⟩ (pos + (Utf8.decode ⟨l.toArray⟩ pos).2)).heap.size = wr.heap.size := Lib.iterAt_size ..
        have hbw2 := hide (Lib.below_iterAt HR.out (k := B + 1) (by omega) ⟨l.toArray⟩ (pos + (Utf8.decode ⟨l.toArray⟩ pos).2))
        clear hit2 hm1 hd hxq
        generalize Utf8.decode ⟨l.toArray⟩ pos = rk at *
        obtain ⟨r, kk⟩ := rk
        generalize wr.iterAt (B + 1) ⟨l.toArray⟩ (pos + kk) = wi at *
        go_wp2_with (go_at_call 54; refine (hidx _).mono ?_)
        rintro e w2 rfl hbe
        go_wp2
        go_ret2
        refine ⟨.slice none 0 0, by rw [HX.out]; rfl, ?_, ?_, fresh_nil _, ty8_nil _⟩
        · rw [HX.out]
          exact ⟨none, 0, rfl, Nat.le_refl _, fun h => absurd h (by decide)⟩
        · have := hbw2.out.trans (hbe.mono (by omega))
          rw [← hB] at this
          exact Chg.of_below this
    · have hnx : ∀ ty, (Instr.next (.pointer (some ⟨B + 1, 0, none⟩)) true ty).run Tryd.prog wr = _ := fun ty => Lib.run_next_end_at wr (B + 1) ⟨l.toArray⟩ pos ty hit (by rw [hsz]; exact hp)
      go_wp2
      go_ret2
      obtain rfl : pos = 2 * n := by omega
      have hE := unhex_pair l (by have := HN.out; omega) (by have := HD.out; rw [← HN.out, List.take_length] at this; exact this)
      have hp := padN_len l n (by have := HN.out; omega)
      have e1 : padN l n = pairN l := by
        unfold padN
        rw [show n - (pairN l).length = 0 by rw [pairN_len]; have := HN.out; omega]
        simp
      refine ⟨.slice (some ⟨B, 0, none⟩) n n, ?_, ?_, ?_, (fun A m c h => by injection h with h; injection h with h; subst h; exact Nat.le_of_eq hB), fun A m c h => by injection h with h; injection h with h; subst h; exact ⟨_, HB.out⟩⟩
      · rw [hE]; rfl
      · rw [hE]
        show Sl wr _ (Lib.byteCells ((pairN l).map UInt8.ofNat))
        rw [← u8n_bytes _ (pairN_small l)]
        have h2 := HB.out
        rw [← HN.out, List.take_length, e1] at h2
        refine Sl.blk' h2 ?_ (Nat.le_refl _)
        rw [e1] at hp
        simp [u8n, hp]
      · have := HR.out
        rw [← hB] at this
        exact Chg.of_below this
end Go.Proofs.YtidceolaemikgaaDoor
