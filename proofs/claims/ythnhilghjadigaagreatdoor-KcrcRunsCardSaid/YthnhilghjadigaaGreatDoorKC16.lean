/- Texts of this claim, side by side: MkR, MkS, MkT, EmA, EmB. -/
import Derived.Test.YthnhilghjadigaaGreatDoorKC15
import Derived.Test.YthnhilghjadigaaGreatDoorShelfM
import Derived.Laws.CopyOwn
import Derived.Laws.CopyRow
import Derived.Deep.RegionLaw
import Derived.Test.YthnhilghjadigaaGreatDoorKC2
import Derived.Maps.RangeWalk
import Derived.Laws.Rows
import Derived.Test.YthnhilghjadigaaGreatDoorCoreT
/- slices.Repeat of one bool. -/
namespace Go.Proofs.YthnhilghjadigaaGreatDoor
open Go Go.RowKit Go.Deep Go.Maps Go.Proofs.YthnhilghjadigaaGreatDoor.Ab Go.Proofs.YthnhilghjadigaaGreatDoor.Xi
set_option linter.unusedVariables false
attribute [local go_sem] Oper.semAt_some
theorem size_bool : (Tryz.prog.info? 4).map (·.size) = some 1 := by kernel_rfl
theorem info_bool : (Tryz.prog.info? 4).map (fun i => (i.zero, i.size, i.bytes)) = some (some (.bool false), 1, 1) := by kernel_rfl
def repB (b : Bool) (k n : Nat) : List Value := List.replicate k (.bool b) ++ List.replicate (n - k) (.bool false)
theorem repB_len (b : Bool) {k n : Nat} (h : k ≤ n) : (repB b k n).length = n := by unfold repB; simp; omega
theorem repB_splice (b : Bool) {k m n : Nat} (h : k + m ≤ n) : splice (repB b k n) k (List.replicate m (.bool b)) = repB b (k + m) n := by
 unfold splice repB
 rw [List.take_append_of_le_length (by simp), List.take_replicate, Nat.min_self, List.length_replicate, List.drop_append, List.length_replicate, List.drop_replicate, List.drop_replicate, ← List.append_assoc, ← List.append_assoc, List.replicate_append_replicate, Nat.sub_eq_zero_of_le (by omega : k ≤ k + m)]
 simp only [List.replicate_zero, List.append_nil]
 rw [show n - k - (k + m - k) = n - (k + m) by omega]
theorem repB_at (b : Bool) {k n j : Nat} (h : j < k) : (repB b k n)[j]? = some (.bool b) := by
 unfold repB
 rw [List.getElem?_append_left (by simpa using h), List.getElem?_replicate, if_pos h]
theorem rep_at {b : Bool} {k j : Nat} {u : Value} (h : (List.replicate k (Value.bool b))[j]? = some u) : j < k ∧ u = .bool b := by
 rw [List.getElem?_replicate] at h
 split at h
 · rename_i hj
   injection h with h
   exact ⟨hj, h.symm⟩
 · cases h
theorem rep_one (b : Bool) (k : Nat) : ∀ v ∈ List.replicate k (Value.bool b), v.oneCell' = true := fun v hv => by
 rw [(List.mem_replicate.1 hv).2]; rfl
theorem copy_rep {W : World} {g m n k : Nat} {b : Bool} (hg : Blk W g 4 (repB b m n)) (src : Addr) (sLen sCap dLen dCap : Nat) (hsrc : ∀ j, j < k → W.cell? (src.add j) = some (.bool b)) (hk : k = Nat.min sLen dLen) (hf : m + k ≤ n) :
 ∃ W', (Builtin.copy_ #[26, 26] 3 #[.slice (some ⟨g, m, none⟩) dLen dCap, .slice (some src) sLen sCap]).run Tryz.prog W = .ok (.int .i64 (k : Int)) W' ∧ Blk W' g 4 (repB b (m + k) n) ∧ ∀ (w0 : World) (B : Nat), Below B w0 W → B ≤ g → Below B w0 W' := by
 have hr := run_copy_row (P := Tryz.prog) W 26 26 3 4 g m dLen dCap src sLen sCap (repB b m n).toArray 4 (List.replicate k (.bool b)) Tryz.underlying26 size_bool hg (by rw [List.length_replicate]; exact hk) (fun j v hj => by obtain ⟨h1, rfl⟩ := rep_at hj; exact hsrc j h1) (by rw [List.length_replicate]; simp only [List.size_toArray]; rw [repB_len b (by omega)]; exact hf) (rep_one b k)
 rw [List.length_replicate] at hr
 have hs := repB_splice b (k := m) (m := k) (n := n) hf
 unfold splice at hs
 rw [List.length_replicate] at hs
 rw [show ((repB b m n).toArray.toList.take m ++ List.replicate k (Value.bool b) ++ (repB b m n).toArray.toList.drop (m + k)) = repB b (m + k) n by rw [← hs, List.append_assoc]] at hr
 exact ⟨W.setRow g (repB b (m + k) n).toArray, hr, setRow_heap W g _ _ _ _ hg, fun w0 B hb hB => below_setRow hb hB _⟩
set_option maxRecDepth 100000 in
set_option maxHeartbeats 2000000 in
theorem repeat_calls (w : World) (q n : Nat) (b : Bool) (hq : w.cell? ⟨q, 0, none⟩ = some (.bool b)) (h1 : 1 ≤ n) (h2 : n ≤ 3000) :
 Calls Tryz.prog 75 #[.slice (some ⟨q, 0, none⟩) 1 1, .int .i64 (n : Int)] w fun e w' => e = .returned (.slice (some ⟨w.heap.size, 0, none⟩) n n) ∧ Chg w w' [] ∧ Blk w' w.heap.size 4 (List.replicate n (.bool b)) := by
 obtain ⟨i0, hi0, hz0, hz1, hz2⟩ := info_parts info_bool
 have hmu : ∀ W : World, Calls Tryz.prog 96 #[.int .u64 (1 : Nat), .int .u64 n] W fun e w' => e = .returned (.tuple #[.int .u64 ((1 * n / 18446744073709551616 : Nat) : Int), .int .u64 ((1 * n % 18446744073709551616 : Nat) : Int)]) ∧ W = w' := fun W => (Tryz.bits_Mul 1 n (by decide) (by omega) W).mono fun e w' ⟨h1, h2⟩ => ⟨h1, h2.symm⟩
 rw [show 1 * n / 18446744073709551616 = 0 by omega, show 1 * n % 18446744073709551616 = n by omega] at hmu
 have hmk := run_make_row' (P := Tryz.prog) 26 4 (.bool false) 1 Tryz.underlying26 info_bool rfl .i64 .i64 n (by omega) (by omega)
 rw [madeCells_zeros] at hmk
 have x1 : decide ((n : Int) < 0) = false := decide_eq_false (by omega)
 have x2 : decide (9223372036854775807 < (n : Int)) = false := decide_eq_false (by omega)
 have hwu : IntKind.u64.wrap (n : Int) = (n : Int) := by rw [IntKind.wrap_u64]; omega
 have hwi : wrap64 (n : Int) = (n : Int) := by unfold wrap64; omega
 have HQ := hide hq
 clear hq
 go_enter Tryz.func75, Tryz.ntmps75
 have hz0 : zeros (.bool false) n = repB b 0 n := by unfold zeros repB; simp
 have hb0 := Blk.new w 4 (zeros (.bool false) n)
 rw [hz0] at hmk hb0
 obtain ⟨w1, hcp, hg1, hb1⟩ := copy_rep (k := 1) hb0 ⟨q, 0, none⟩ 1 1 n n (fun j hj => by obtain rfl : j = 0 := (by omega); rw [add_plain]; exact ((Chg.refl w []).alloc _).cell HQ.out (by simp)) (Nat.min_eq_left h1).symm (by omega)
 have HG1 : Hid (Blk w1 w.heap.size 4 (repB b 1 n)) := hide (by simpa using hg1)
 have HW1 := hide (hb1 w w.heap.size (Chg.to_below ((Chg.refl w []).alloc _)) (Nat.le_refl _))
 clear hb0 hz0 hg1 hb1
 go_wp2_with (go_at_call 96; refine (hmu _).mono ?_; rintro e w2 ⟨rfl, rfl⟩)
 clear hcp hmk hmu HQ
 go_loopw [8] (fun v wr => ∃ m : Nat, 1 ≤ m ∧ m ≤ n ∧ v = .int .i64 m ∧ Hid (Blk wr w.heap.size 4 (repB b m n)) ∧ Hid (Below w.heap.size w wr)) (fun v _ => n - (intOf v).toNat)
 case atStart => exact ⟨1, Nat.le_refl _, h1, rfl, HG1, HW1⟩
 case round =>
  obtain ⟨m, hm1, hm2, rfl, HG, HW⟩ := hrel
  by_cases hlt : m < n
  · have hgd := HG.out.drew
    obtain ⟨w3, hcp, hg3, hb3⟩ := copy_rep (k := min m (n - m)) hgd ⟨w.heap.size, 0, none⟩ m n (n - m) (n - m) (fun j hj => by
     have hjm : j < m := Nat.lt_of_lt_of_le hj (Nat.min_le_left _ _)
     rw [add_plain, Nat.zero_add]
     exact hgd.cell' (repB_at b hjm)) rfl (by have := Nat.min_le_right m (n - m); omega)
    have hk1 : 1 ≤ min m (n - m) := by omega
    have hk2 : m + min m (n - m) ≤ n := by omega
    have HG3 := hide hg3
    have HB3 := hide (hb3 w w.heap.size HW.out.drew (Nat.le_refl _))
    clear hgd hg3 hb3
    generalize min m (n - m) = k at *
    have hwk : IntKind.i64.wrap ((m : Int) + (k : Int)) = (m : Int) + (k : Int) := by rw [IntKind.wrap_i64]; omega
    go_wp2_with fail
    go_region_with (fail)
    all_goals
     simp only [Act.put, Array.setIfInBounds, List.getElem_toArray, List.getElem_cons_zero, List.getElem_cons_succ]
     go_simp
     go_roundw
     case rel => exact ⟨_, _, _, _, _, _, _, _, _, _, _, _, _, _, ⟨m + k, by omega, hk2, by rw [Int.natCast_add], HG3, HB3⟩, rfl⟩
     case measure => simp [intOf]; omega
  · have hk2 : m = n := by omega
    subst hk2
    go_wp2
    go_ret
    refine ⟨rfl, Chg.of_below HW.out, ?_⟩
    have := HG.out
    unfold repB at this
    rw [Nat.sub_self, List.replicate_zero, List.append_nil] at this
    exact this
end Go.Proofs.YthnhilghjadigaaGreatDoor

/- A plan of memory: Secret, Used. -/
namespace Go.Proofs.YthnhilghjadigaaGreatDoor
open Go Go.RowKit Go.Deep Go.Maps Go.Proofs.YthnhilghjadigaaGreatDoor.Ab Go.Proofs.YthnhilghjadigaaGreatDoor.Xi
set_option linter.unusedVariables false
attribute [local go_sem] Oper.semAt_some
def secsOf (l : List (Nat × Nat × Bool)) : List Bool := l.flatMap fun p => List.replicate p.2.1 p.2.2
def bools (l : List Bool) : List Value := l.map Value.bool
theorem secs_snoc (l : List (Nat × Nat × Bool)) (p : Nat × Nat × Bool) : bools (secsOf (l ++ [p])) = bools (secsOf l) ++ List.replicate p.2.1 (.bool p.2.2) := by
 unfold secsOf
 rw [List.flatMap_append]
 show bools (_ ++ (List.replicate p.2.1 p.2.2 ++ [])) = _
 rw [List.append_nil]
 unfold bools
 rw [List.map_append, List.map_replicate]
theorem secs_len : ∀ (l : List (Nat × Nat × Bool)), (∀ p ∈ l, p.2.1 ≤ 2048) → (secsOf l).length ≤ l.length * 2048
 | [], _ => by simp [secsOf]
 | p :: l, h => by
  have ih := secs_len l fun q hq => h q (List.mem_cons_of_mem _ hq)
  have := h p List.mem_cons_self
  unfold secsOf at ih ⊢
  rw [List.flatMap_cons, List.length_append, List.length_replicate, List.length_cons]
  omega
theorem regCells_at2 : ∀ (l : List (Nat × Nat × Bool)) (u j : Nat), j < l.length → ∃ k a n b, l.reverse[j]? = some (k, n, b) ∧ (regCells l u)[j * 4]? = some (strV (vName k)) ∧ (regCells l u)[j * 4 + 1]? = some (.int .i64 (a : Nat)) ∧ (regCells l u)[j * 4 + 2]? = some (.int .i64 (n : Nat)) ∧ (regCells l u)[j * 4 + 3]? = some (.bool b)
 | [], _, j, h => by simp at h
 | (k, n, b) :: l, u, j, h => by
  have hl := regCells_len l (u - n)
  unfold regCells
  rw [List.reverse_cons]
  by_cases e : j < l.length
  · obtain ⟨k', a', n', b', hx, h0, h1, h2, h3⟩ := regCells_at2 l (u - n) j e
    refine ⟨k', a', n', b', ?_, ?_, ?_, ?_, ?_⟩
    · rw [List.getElem?_append_left (by simpa using e)]; exact hx
    all_goals rw [List.getElem?_append_left (by omega)]; assumption
  · have e : j = l.length := by simp at h; omega
    subst e
    refine ⟨k, u - n, n, b, ?_, ?_, ?_, ?_, ?_⟩
    · rw [List.getElem?_append_right (by simp)]; simp
    all_goals rw [List.getElem?_append_right (by omega)]
    · rw [show l.length * 4 - (regCells l (u - n)).length = 0 by omega]; rfl
    · rw [show l.length * 4 + 1 - (regCells l (u - n)).length = 1 by omega]; rfl
    · rw [show l.length * 4 + 2 - (regCells l (u - n)).length = 2 by omega]; rfl
    · rw [show l.length * 4 + 3 - (regCells l (u - n)).length = 3 by omega]; rfl
set_option maxRecDepth 100000 in
theorem used_calls {w : World} {pp used : Nat} {rv : Value} {rr : List (Nat × Nat × Bool)} (h : PL w pp rv used rr) : Calls Tryz.prog 50 #[.pointer (some ⟨pp, 0, none⟩)] w fun e w' => e = .returned (.int .i64 (used : Int)) ∧ w = w' := by
 have c1 := h.blk.cell' (i := 1) rfl
 clear h
 go_enter Tryz.func50, Tryz.ntmps50
 go_wp2
 go_ret
 exact ⟨rfl, rfl⟩
set_option maxRecDepth 100000 in
set_option maxHeartbeats 2000000 in
theorem secret_calls {w : World} {pp used : Nat} {rv : Value} {rr : List (Nat × Nat × Bool)} (h : PL w pp rv used rr) (hn : ∀ p ∈ rr, 1 ≤ p.2.1 ∧ p.2.1 ≤ 2048) (hl : rr.length ≤ 1000000) :
 Calls Tryz.prog 49 #[.pointer (some ⟨pp, 0, none⟩)] w fun e w' => ∃ v, e = .returned v ∧ Chg w w' [] ∧ w'.ownsRow w.heap.size 4 1 v (secsOf rr.reverse).length (bools (secsOf rr.reverse)) := by
 obtain ⟨i0, hi, hz0, hz1, hz2⟩ := info_parts info_bool
 have ha := all_calls h
 obtain ⟨A, c, rfl, hx⟩ := row_open h.row
 have HX := hide hx
 have HN := hide hn
 clear h hx hn
 go_enter Tryz.func49, Tryz.ntmps49
 go_wp2_with (go_at_call 74; refine ha.mono ?_; rintro e w1 ⟨rfl, rfl⟩)
 go_loopw [3, 9] (fun v i wr => ∃ k : Nat, k ≤ rr.length ∧ i = .int .i64 k ∧ Hid (Chg w wr []) ∧ Hid (wr.ownsRow w.heap.size 4 1 v (secsOf (rr.reverse.take k)).length (bools (secsOf (rr.reverse.take k))))) (fun _ i _ => rr.length - (intOf i).toNat)
 case atStart => exact ⟨0, Nat.zero_le _, rfl, hide (Chg.refl _ _), hide (World.ownsRow_nil _ _ _ _)⟩
 case round =>
  obtain ⟨k, hk, rfl, HR, HO⟩ := hrel
  by_cases hlt : k < rr.length
  · obtain ⟨g, rfl, hgl, hgb, hcells⟩ := HX.out (by omega)
    obtain ⟨kn, a, n, b, hrk, e0, e1, e2, e3⟩ := regCells_at2 rr used k hlt
    have ca := HR.out.cell (hcells _ _ e0) (by simp)
    have cb := HR.out.cell (hcells _ _ e1) (by simp)
    have cc := HR.out.cell (hcells _ _ e2) (by simp)
    have cd := HR.out.cell (hcells _ _ e3) (by simp)
    have hgr : g < wr.heap.size := by have := HR.out.size; omega
    obtain ⟨hn1, hn2⟩ := HN.out (kn, n, b) (List.mem_reverse.1 (List.mem_of_getElem? hrk))
    have hn1 : 1 ≤ n := hn1
    have hn2 : n ≤ 2048 := hn2
    have hsn : bools (secsOf (rr.reverse.take (k + 1))) = bools (secsOf (rr.reverse.take k)) ++ List.replicate n (.bool b) := by
     rw [List.take_add_one, hrk]
     exact secs_snoc _ _
    have hsz : (secsOf (rr.reverse.take k)).length ≤ 2048 * 1000000 := by
     have := secs_len (rr.reverse.take k) fun p hp => (HN.out p (List.mem_reverse.1 (List.mem_of_mem_take hp))).2
     have h2 : (rr.reverse.take k).length ≤ 1000000 := by rw [List.length_take, List.length_reverse]; omega
     omega
    have HSN := hide hsn
    obtain ⟨V, vc, rfl⟩ := own_slice HO.out
    have hrp := fun W q hq => repeat_calls W q n b hq hn1 (by omega)
    clear hcells e0 e1 e2 e3 hsn hrk
    unfold strV at *
    go_wp2_with fail
    go_at_call 75
    have hz1 : (wr.alloc (.cells #[.string ⟨(vName kn).toArray⟩, .int .i64 (a : Int), .int .i64 (n : Int), .bool b] 150)).heap.size = wr.heap.size + 1 := size_alloc _ _
    have hq0 : ((wr.alloc (.cells #[.string ⟨(vName kn).toArray⟩, .int .i64 (a : Int), .int .i64 (n : Int), .bool b] 150)).alloc (.cells #[.bool b] 4)).cell? ⟨wr.heap.size + 1, 0, none⟩ = some (.bool b) := by
     have := (Blk.new (wr.alloc (.cells #[.string ⟨(vName kn).toArray⟩, .int .i64 (a : Int), .int .i64 (n : Int), .bool b] 150)) 4 [.bool b]).cell' (i := 0) rfl
     rw [hz1] at this
     exact this
    refine (hrp _ (wr.heap.size + 1) hq0).mono ?_
    have hca : Chg wr ((wr.alloc (.cells #[.string ⟨(vName kn).toArray⟩, .int .i64 (a : Int), .int .i64 (n : Int), .bool b] 150)).alloc (.cells #[.bool b] 4)) [] := ((Chg.refl wr []).alloc _).alloc _
    generalize (wr.alloc (.cells #[.string ⟨(vName kn).toArray⟩, .int .i64 (a : Int), .int .i64 (n : Int), .bool b] 150)).alloc (.cells #[.bool b] 4) = w2 at *
    rintro e w3 ⟨rfl, hc3, hb3⟩
    have hcR := (HR.out.trans hca (by simp)).trans hc3 (by simp)
    have HCR := hide hcR
    have HO3 := hide (own_chgD HO.out (hca.trans hc3 (by simp)) (by simp))
    have HB3 := hide hb3
    generalize hg2 : w2.heap.size = g2 at *
    clear hz1 hq0 hca hc3 hb3 hcR hrp ca cb cc cd
    go_wp2_with (at_builtin; refine wpList_append_own _ rfl _ _ 26 rfl w.heap.size 4 i0 (.bool false) 1 1 Tryz.underlying26 hi hz0 hz1 hz2 rfl (by decide) _ (secsOf (rr.reverse.take k)).length _ rfl HO3.out ⟨g2, 0, none⟩ n n (List.replicate n (.bool b)) rfl (by simp) ?c1 (rep_one b n) ?c3 ?c4 ?c5 ?_)
    case c1 =>
     intro j u hj
     rw [add_plain, Nat.zero_add]
     exact HB3.out.cell' hj
    case c3 => unfold maxLen; omega
    case c4 => omega
    case c5 => exact HCR.out.size
    intro v' w4 hown' hgrow _
    have HG : Hid (Chg w w4 []) := hide (HCR.out.trans (D' := (Value.slice V (secsOf (rr.reverse.take k)).length vc).ownBlock.toList) (Chg.of_grown hgrow (fun k hk => .inl (by simp [hk]))) (fun k hk => .inr (HO.out.lt k (by simpa using hk)).1))
    have hll : (secsOf (rr.reverse.take k)).length + n = (secsOf (rr.reverse.take (k + 1))).length := by
     have := congrArg List.length HSN.out
     unfold bools at this
     rw [List.length_append, List.length_map, List.length_map, List.length_replicate] at this
     omega
    have HO4 : Hid (w4.ownsRow w.heap.size 4 1 v' (secsOf (rr.reverse.take (k + 1))).length (bools (secsOf (rr.reverse.take (k + 1))))) := hide (by rw [HSN.out, ← hll]; exact hown')
    obtain ⟨A6, c6, hv'⟩ := own_slice hown'
    clear hown' hgrow hll
    go_wp2
    go_roundw
    case rel => exact ⟨k + 1, by omega, by go_num, HG, HO4⟩
    case measure => simp [intOf]; omega
  · have hk2 : k = rr.length := by omega
    subst hk2
    go_wp2
    go_ret
    have := HO.out
    rw [List.take_of_length_le (by simp)] at this
    exact ⟨_, rfl, HR.out, this⟩
end Go.Proofs.YthnhilghjadigaaGreatDoor

/- emit.Maker: Finish. -/
namespace Go.Proofs.YthnhilghjadigaaGreatDoor
open Go Go.RowKit Go.Deep Go.Maps Go.Proofs.YthnhilghjadigaaGreatDoor.Ab Go.Proofs.YthnhilghjadigaaGreatDoor.Xi
set_option linter.unusedVariables false
attribute [local go_sem] Oper.semAt_some
def dataL (s : KS) : List Int := (List.range s.used).map fun a : Nat => (findD s.data (a : Int)).getD 0
def ImgAt (w : World) (v : Value) (code data : List Int) (sec : List Bool) (ins outs : List Nat) : Prop :=
 ∃ c d se i o, v = .agg #[c, d, se, i, o] ∧ Sl w c (u32s code) ∧ Sl w d (i32s data) ∧ Sl w se (bools sec) ∧ Sl w i (ints ins) ∧ Sl w o (ints outs)
def _root_.Go.Proofs.YthnhilghjadigaaGreatDoor.Ab.KS.finOk (s : KS) : Bool :=
 Nat.ble s.nc 16000 && (s.rd.all (fun p => Nat.ble p.2 1000000) && (s.ru.all (fun p => Nat.ble p.2 1000000 && Nat.ble p.1 100000) && (s.rr.all (fun p => Nat.ble 1 p.2.1 && Nat.ble p.2.1 2048) && s.data.all (fun p => Nat.blt p.1 s.used))))
theorem fin_iff {s : KS} (h : s.finOk = true) : s.nc ≤ 16000 ∧ (∀ p ∈ s.rd, p.2 ≤ 1000000) ∧ (∀ p ∈ s.ru, p.2 ≤ 1000000 ∧ p.1 ≤ 100000) ∧ (∀ p ∈ s.rr, 1 ≤ p.2.1 ∧ p.2.1 ≤ 2048) ∧ (∀ p ∈ s.data, p.1 < s.used) := by
 unfold KS.finOk at h
 simp only [Bool.and_eq_true, List.all_eq_true, Xi.ble_iff, Xi.blt_iff] at h
 exact h
theorem fine_ks {s : KS} (h : s.finOk = true) : Fine s.bm := by
 obtain ⟨_, h1, h2, _, _⟩ := fin_iff h
 refine ⟨fun p hp => ?_, fun p hp => ?_⟩
 · obtain ⟨q, hq, rfl⟩ := List.mem_map.1 hp
   have := h1 q (List.mem_reverse.1 hq)
   show 0 ≤ (q.2 : Int) ∧ (q.2 : Int) ≤ 1000000
   omega
 · obtain ⟨q, hq, rfl⟩ := List.mem_map.1 hp
   obtain ⟨h3, h4⟩ := h2 q (List.mem_reverse.1 hq)
   refine ⟨?_, ?_⟩
   · show 0 ≤ (q.2 : Int) ∧ (q.2 : Int) ≤ 1000000
     omega
   · show (lName q.1).length ≤ 1000000
     have := dec_len (u := q.1) (by omega)
     unfold lName decN8
     rw [Lib.itoa_nonneg, List.length_cons]
     omega
theorem findD_mem {l : List (Nat × Int)} {a : Int} {x : Int} (h : findD l a = some x) : ∃ p ∈ l, (p.1 : Int) = a := by
 induction l with
 | nil => cases h
 | cons p l ih =>
  obtain ⟨k, y⟩ := p
  unfold findD at h
  by_cases e : (k : Int) = a
  · exact ⟨_, List.mem_cons_self, e⟩
  · rw [if_neg e] at h
    obtain ⟨q, hq, h2⟩ := ih h
    exact ⟨q, List.mem_cons_of_mem _ hq, h2⟩
def dataUp (s : KS) (left : Lit → Bool) : List Int := (List.range s.used).map fun a : Nat => if left (.int .i64 (a : Int)) = true then 0 else (findD s.data (a : Int)).getD 0
theorem dataUp_len (s : KS) (left : Lit → Bool) : (dataUp s left).length = s.used := by simp [dataUp]
theorem dataUp_end (s : KS) {left : Lit → Bool} (h : ∀ kl, left kl = false) : dataUp s left = dataL s := by
 unfold dataUp dataL
 refine List.map_congr_left fun a _ => ?_
 rw [h, if_neg (by decide)]
theorem dataUp_start (s : KS) {left : Lit → Bool} (h : ∀ a : Nat, (left (.int .i64 (a : Int)) = false → findD s.data (a : Int) = none)) : i32s (dataUp s left) = zeros (.int .i32 0) s.used := by
 unfold i32s dataUp zeros
 rw [List.map_map]
 apply List.ext_getElem
 · simp
 · intro j h1 h2
   simp only [List.getElem_map, List.getElem_range, Function.comp, List.getElem_replicate]
   cases hl : left (.int .i64 (j : Int)) with
   | true => simp
   | false => simp [h j hl]
theorem dataUp_step (s : KS) {left : Lit → Bool} {a : Nat} {c : Int} (ha : a < s.used) (hc : findD s.data (a : Int) = some c) :
 dataUp s (fun z => left z && !z.sameKey (.int .i64 (a : Int))) = (dataUp s left).set a c := by
 unfold dataUp
 apply List.ext_getElem
 · simp
 · intro j h1 h2
   have hj : j < s.used := by simpa using h1
   rw [List.getElem_set]
   simp only [List.getElem_map, List.getElem_range]
   by_cases e : a = j
   · subst e
     rw [if_pos rfl, hc]
     have : (Lit.int .i64 (a : Int)).sameKey (.int .i64 (a : Int)) = true := WideAt.sameKey_self trivial
     rw [this]
     simp
   · rw [if_neg e]
     have : (Lit.int .i64 (j : Int)).sameKey (.int .i64 (a : Int)) = false := by
      cases h : (Lit.int .i64 (j : Int)).sameKey (.int .i64 (a : Int)) with
      | false => rfl
      | true => have := WideAt.sameKey_eq h; injection this with _ h; omega
     rw [this]
     simp
theorem chk_halt : chkI ⟨43, 0, 0, 0, 0⟩ = 0 := by decide
theorem grown_setCell (w : World) (g i : Nat) (v : Value) : w.grownBy (w.setCell ⟨g, i, none⟩ v) (some g) :=
 ⟨rfl, rfl, rfl, by rw [size_setCell]; exact Nat.le_refl _, fun k _ hk => heap_setCell_far w _ _ k (fun e => hk (by rw [e]))⟩
theorem sl_far {w : World} {q : Nat} {t : TypeId} {cs xs : List Value} {v : Value} (hb : Blk w q t cs) (hs : Sl w v xs) (hne : ∀ u ∈ cs, u ∉ xs) (h0 : 0 < xs.length) (A : Addr) (n c : Nat) (he : v = .slice (some A) n c) : A.block ∉ [q] := by
 intro hm
 subst he
 obtain ⟨b, off, hA, hc, _⟩ := hs.at_ (k := 0) (List.getElem?_eq_getElem h0)
 injection hA with hA
 subst hA
 have hm : b = q := by simpa using hm
 subst hm
 rw [hb.cell] at hc
 exact hne _ (List.mem_of_getElem? hc) (List.getElem_mem h0)
section
variable {w : World} {b : MP} {s : KS} {F : List Nat}
set_option maxRecDepth 100000 in
set_option maxHeartbeats 4000000 in
theorem mfinish_calls (h : KR w b s F) (hok : (s.ins ⟨43, 0, 0, 0, 0⟩).finOk = true) (hru : s.ru.length ≤ 100000) {l : List Int} (hl : finN (s.ins ⟨43, 0, 0, 0, 0⟩) = some l) :
 Calls Tryz.prog 20 #[.pointer (some ⟨b.a, 0, none⟩)] w fun e w' => ∃ v, e = .returned v ∧ Chg w w' F ∧ ImgAt w' v l (dataL s) (secsOf s.rr.reverse) s.ri.reverse s.ro.reverse := by
 obtain ⟨i0, hi0, hz0, hz1, hz2⟩ := info_parts info_i32
 obtain ⟨p, hp, hf, rfl⟩ := h
 obtain ⟨q1, q2, q3, q4, q5⟩ := fin_iff hok
 have q1 : s.nc + 1 ≤ 16000 := q1
 have HQ5 := hide (show ∀ p ∈ s.data, p.1 < s.used from q5)
 have hu2 := hp.wf.used
 have c0 := hp.blk.cell' (i := 0) rfl
 have hlt := hp.blk.lt
 have hin := fun o : Obj => (hp.chg0 ((Chg.refl w []).alloc o)).ins ⟨43, 0, 0, 0, 0⟩ chk_halt (by omega)
 unfold insVal at hin
 have hmk := run_make_row' (P := Tryz.prog) 25 21 (.int .i32 0) 4 Tryz.underlying25 info_i32 rfl .i64 .i64 s.used (by omega) (by omega)
 rw [madeCells_zeros] at hmk
 have HP := hide hp
 have HQ1 := hide q1
 have HOK := hide hok
 have HL := hide hl
 have HQ4 := hide (show ∀ p ∈ s.rr, 1 ≤ p.2.1 ∧ p.2.1 ≤ 2048 from q4)
 clear hp hf hok hl q1 q2 q3 q4 q5
 go_enter Tryz.func20, Tryz.ntmps20
 go_wp2_with fail
 go_at_call 47
 refine (hin _).mono ?_
 rintro e w1 ⟨rfl, hc1, p1, hp1, hf1, hs1⟩
 have hq2n : w.heap.size ∉ p.foot b.a := fun hm => by have := HP.out.flt _ hm; omega
 have HQ2 := hide ((Blk.new w 29 [.slice none 0 0, .slice none 0 0, .slice none 0 0, .slice none 0 0, .slice none 0 0]).chg hc1 hq2n)
 have HQ2N := hide (far_sub hs1 hq2n (by rw [size_alloc]; omega))
 have HQ2L := hide (show w.heap.size < w1.heap.size from (by have := hc1.size; rw [size_alloc] at this; omega))
 have HC1 : Hid (Chg w w1 (p.foot b.a)) := hide (((Chg.refl w _).alloc _).trans hc1 (fun k hk => .inl hk))
 have HP1 := hide hp1
 have d0 := hp1.blk.cell' (i := 0) rfl
 have d1 := hp1.blk.cell' (i := 1) rfl
 have d8 := hp1.blk.cell' (i := 8) rfl
 have d9 := hp1.blk.cell' (i := 9) rfl
 have d10 := hp1.blk.cell' (i := 10) rfl
 have d11 := hp1.blk.cell' (i := 11) rfl
 have d12 := hp1.blk.cell' (i := 12) rfl
 have hlt1 := hp1.blk.lt
 obtain ⟨Ai, ci, hAi⟩ := own_slice hp1.inn
 obtain ⟨Ao, co, hAo⟩ := own_slice hp1.out
 rw [hAi] at d11
 rw [hAo] at d12
 have HAI := hide hAi
 have HAO := hide hAo
 have HS1 := hide hs1
 clear hc1 hp1 hf1 hs1 hin c0 hAi hAo
 go_wp2_with fail
 have hb2 := Blk.new w1 29 [.slice none 0 0, .slice none 0 0, .slice none 0 0, .slice Ai s.ri.length ci, .slice Ao s.ro.length co]
 have hp2 := HP1.out.chg0 ((Chg.refl w1 []).alloc (.cells #[.slice none 0 0, .slice none 0 0, .slice none 0 0, .slice Ai s.ri.length ci, .slice Ao s.ro.length co] 29))
 have hc2 : Chg w1 (w1.alloc (.cells #[.slice none 0 0, .slice none 0 0, .slice none 0 0, .slice Ai s.ri.length ci, .slice Ao s.ro.length co] 29)) [] := (Chg.refl w1 []).alloc _
 have hnq : w1.heap.size ∉ p1.foot b.a := fun hm => by have := HP1.out.flt _ hm; omega
 change Calls _ _ _ (w1.alloc (.cells #[.slice none 0 0, .slice none 0 0, .slice none 0 0, .slice Ai s.ri.length ci, .slice Ao s.ro.length co] 29)) _
 have hzq : (w1.alloc (.cells #[.slice none 0 0, .slice none 0 0, .slice none 0 0, .slice Ai s.ri.length ci, .slice Ao s.ro.length co] 29)).heap.size = w1.heap.size + 1 := size_alloc _ _
 generalize w1.alloc (.cells #[.slice none 0 0, .slice none 0 0, .slice none 0 0, .slice Ai s.ri.length ci, .slice Ao s.ro.length co] 29) = w2 at *
 have HZW := hide hc2.size
 generalize hqm : w1.heap.size = qm at *
 go_at_call 48
 have hcl : ((s.ins ⟨43, 0, 0, 0, 0⟩).bm.code.length) ≤ 16384 := by
  show (s.ins ⟨43, 0, 0, 0, 0⟩).rc.reverse.length ≤ _
  rw [List.length_reverse, ← HP1.out.wf.nc]
  have := HQ1.out
  show s.nc + 1 ≤ _
  omega
 have hfc := finish_calls hp2.bld (fine_ks HOK.out) hcl (by show (s.ru.reverse.map _).length ≤ _; rw [List.length_map, List.length_reverse]; exact hru) hp2.glo.ert
 rw [finM_n HL.out] at hfc
 refine hfc.mono ?_
 rintro e w3 ⟨hc3, vc, rfl, hsl3⟩
 obtain ⟨Ac, cc, hvc, _⟩ := id hsl3
 subst hvc
 have HC3 := hide hc3
 have HSL3 := hide hsl3
 have HP3 := hide (hp2.chg0 hc3)
 have HB3 := hide (hb2.chg hc3 (by simp))
 have HC2 := hide hc2
 have HNQ := hide hnq
 have HZQ := hide hzq
 have f0 := HB3.out.frozen 0
 have y0 := HB3.out.cell' (i := 0) rfl
 have hlq := HB3.out.lt
 clear hfc hc3 hsl3 hp2 hb2 hc2 hnq hzq hcl d0 d1 d8 d9 d10 d11 d12 hlt hlt1
 go_upto_region 4 with (fail)
 change Code.wp _ _ _ _ (w3.setCell ⟨qm, 0, none⟩ (.slice Ac (u32s l).length cc))
 have hQq : 8 ≤ qm := by have := HP1.out.glo.size; omega
 have hx4 : Chg w3 (w3.setCell ⟨qm, 0, none⟩ (.slice Ac (u32s l).length cc)) [qm] := (Chg.refl w3 _).setCell _ _ (.inl (by simp))
 have hqf : ∀ k ∈ p1.foot b.a, k ∉ [qm] := fun k hk hm => HNQ.out (by simp at hm; exact hm ▸ hk)
 have hp4 := HP3.out.chg hx4 hqf (fun k hk => by simp at hk; exact hk ▸ hQq)
 have hb4 := HB3.out.set_ 0 (.slice Ac (u32s l).length cc)
 have hsl4 := HSL3.out.chg0 hx4 (sl_far HB3.out HSL3.out (fun u hu hx => by
  obtain ⟨y, _, rfl⟩ := List.mem_map.1 hx
  simp at hu))
 generalize w3.setCell ⟨qm, 0, none⟩ (.slice Ac (u32s l).length cc) = w4 at *
 have e1 := hp4.blk.cell' (i := 1) rfl
 have f2 := hb4.frozen 2
 have y2 := hb4.cell' (i := 2) rfl
 have hsec := secret_calls hp4.plan HQ4.out (by have q1 : s.rr.length ≤ s.names := hp4.wf.cap; have q2 : s.names ≤ 100000 := hp4.wf.names; show s.rr.length ≤ _; omega)
 have hltb := hp4.blk.lt
 have HP4 := hide hp4
 have HB4 := hide hb4
 have HSL4 := hide hsl4
 have HX4 := hide hx4
 have HQF := hide hqf
 have HQQ := hide hQq
 clear hp4 hb4 hsl4 hx4 hqf hQq f0 y0 hlq
 go_wp2_with fail
 go_at_call 49
 refine hsec.mono ?_
 rintro e w5 ⟨vs, rfl, hc5, hown5⟩
 obtain ⟨As, cs, hvs⟩ := own_slice hown5
 subst hvs
 have g2 := (HB4.out.chg hc5 (by simp)).frozen 2
 have z2 := (HB4.out.chg hc5 (by simp)).cell' (i := 2) rfl
 have hlq5 := (HB4.out.chg hc5 (by simp)).lt
 have HC5 := hide hc5
 have HO5 := hide hown5
 clear hsec hc5 hown5 f2 y2 e1
 go_upto_region 5 with (fail)
 change Code.wp _ _ _ _ (w5.setCell ⟨qm, 2, none⟩ (.slice As (secsOf s.rr.reverse).length cs))
 have hx6 : Chg w5 (w5.setCell ⟨qm, 2, none⟩ (.slice As (secsOf s.rr.reverse).length cs)) [qm] := (Chg.refl w5 _).setCell _ _ (.inl (by simp))
 have hp6 := (HP4.out.chg0 HC5.out).chg hx6 HQF.out (fun k hk => by simp at hk; exact hk ▸ HQQ.out)
 have hb6 := (HB4.out.chg HC5.out (by simp)).set_ 2 (.slice As (secsOf s.rr.reverse).length cs)
 have hsl6 := (HSL4.out.chg HC5.out (by simp)).chg0 hx6 (sl_far (HB4.out.chg HC5.out (by simp)) (HSL4.out.chg HC5.out (by simp)) (fun u hu hx => by
  obtain ⟨y, _, rfl⟩ := List.mem_map.1 hx
  simp at hu))
 have ho6 := own_chgD HO5.out hx6 (fun g hg hm => by
  have := (HO5.out.lt g hg).1
  simp at hm
  have := HB4.out.lt
  omega)
 generalize w5.setCell ⟨qm, 2, none⟩ (.slice As (secsOf s.rr.reverse).length cs) = w6 at *
 have e1 := hp6.blk.cell' (i := 1) rfl
 have hltb6 := hp6.blk.lt
 have hus : Calls Tryz.prog 50 #[.pointer (some ⟨p1.pp, 0, none⟩)] w6 fun e w' => e = .returned (.int .i64 (s.used : Int)) ∧ w6 = w' := used_calls hp6.plan
 have y1 := hb6.cell' (i := 1) rfl
 have f1 := hb6.frozen 1
 have hlq6 := hb6.lt
 have HP6 := hide hp6
 have HB6 := hide hb6
 have HSL6 := hide hsl6
 have HO6 := hide ho6
 have HX6 := hide hx6
 clear hp6 hb6 hsl6 ho6 hx6 g2 z2 hlq5
 go_upto_region 6 with (go_at_call 50; refine hus.mono ?_; rintro e w7 ⟨rfl, rfl⟩)
 change Code.wp _ _ _ _ ((w6.setCell ⟨qm, 1, none⟩ (.slice (some ⟨w6.heap.size, 0, none⟩) s.used s.used)).alloc (.cells (zeros (.int .i32 0) s.used).toArray 21))
 have hxa : Chg w6 (w6.setCell ⟨qm, 1, none⟩ (.slice (some ⟨w6.heap.size, 0, none⟩) s.used s.used)) [qm] := (Chg.refl w6 _).setCell _ _ (.inl (by simp))
 have hx7 : Chg w6 ((w6.setCell ⟨qm, 1, none⟩ (.slice (some ⟨w6.heap.size, 0, none⟩) s.used s.used)).alloc (.cells (zeros (.int .i32 0) s.used).toArray 21)) [qm] := hxa.alloc _
 have hp7 := HP6.out.chg hx7 HQF.out (fun k hk => by simp at hk; exact hk ▸ HQQ.out)
 have hb7 := (HB6.out.set_ 1 (.slice (some ⟨w6.heap.size, 0, none⟩) s.used s.used)).alloc (.cells (zeros (.int .i32 0) s.used).toArray 21)
 have hg7 := Blk.new (w6.setCell ⟨qm, 1, none⟩ (.slice (some ⟨w6.heap.size, 0, none⟩) s.used s.used)) 21 (zeros (.int .i32 0) s.used)
 rw [size_setCell] at hg7
 have hsl7 := HSL6.out.chg0 hx7 (sl_far HB6.out HSL6.out (fun u hu hx => by
  obtain ⟨y, _, rfl⟩ := List.mem_map.1 hx
  simp at hu))
 have ho7 := own_chgD HO6.out hx7 (fun g hg hm => by
  have := (HO6.out.lt g hg).1
  simp at hm
  have := HB4.out.lt
  omega)
 have hz7 : ((w6.setCell ⟨qm, 1, none⟩ (.slice (some ⟨w6.heap.size, 0, none⟩) s.used s.used)).alloc (.cells (zeros (.int .i32 0) s.used).toArray 21)).heap.size = w6.heap.size + 1 := by rw [size_alloc, size_setCell]
 generalize ((w6.setCell ⟨qm, 1, none⟩ (.slice (some ⟨w6.heap.size, 0, none⟩) s.used s.used)).alloc (.cells (zeros (.int .i32 0) s.used).toArray 21)) = w7 at *
 have e2 := hp7.blk.cell' (i := 2) rfl
 have hltb7 := hp7.blk.lt
 have HZ4 := hide HB4.out.lt
 generalize hgd : w6.heap.size = gd at *
 obtain ⟨D, hown, hT, hD, hf⟩ := hp7.data
 have HP7 := hide hp7
 have HB7 := hide hb7
 have HG7 := hide hg7
 have HSL7 := hide hsl7
 have HO7 := hide ho7
 have HX7 := hide hx7
 have HZ7 := hide hz7
 have HFD := hide hf
 have HDM := hide hD
 clear hp7 hb7 hg7 hsl7 ho7 hx7 hxa e1 y1 f1 hlq6 hltb6 hf hD hT
 go_wp2_with (first
  | (at_range; refine wpList_range_own _ rfl _ 82 rfl 3 21 keyed_int Tryz.underlying82 _ p1.md p1.nd D rfl hown ?_; intro w8 hrg0 hg0 hs0)
  | fail)
 have hc8 : Chg w7 w8 [] := Chg.of_grown hg0 (by simp)
 have HC8 := hide hc8
 generalize hr7 : w7.heap.size = r at *
 obtain rfl : r = gd + 1 := by have := HZ7.out; omega
 have hqr : qm < gd := by have := HB6.out.lt; omega
 have hg8 := HG7.out.chg hc8 (by simp)
 have hst : zeros (.int .i32 0) s.used = i32s (dataUp s (Maps.has D)) := (dataUp_start s (fun a ha => by
  have h1 := (HFD.out (.int .i64 (a : Int)) trivial).1
  rw [ha] at h1
  have h1 : ((findD s.data (a : Int)).map (Lit.int .i32)).isSome = false := h1.symm
  cases hx : findD s.data (a : Int) with
  | none => rfl
  | some y => rw [hx] at h1; cases h1)).symm
 rw [hst] at hg8
 have HG8 := hide hg8
 clear hc8 hg8 hst hg0 hs0 e2 hown hmk
 go_frame
 go_loopw [4, 5] (fun _ _ wr => ∃ (left : Lit → Bool) (cnt : Nat), wr.ranges Tryz.prog 3 (plainElem Tryz.prog 21) p1.md (gd + 1) p1.nd D left cnt ∧ Hid (Chg w8 wr [gd, gd + 1]) ∧ Hid (Blk wr gd 21 (i32s (dataUp s left))) ∧ Hid (∀ kl, left kl = true → Maps.has D kl = true)) (fun _ _ wr => wr.rangeLeft p1.md (gd + 1))
 case atStart => exact ⟨_, _, hrg0, hide (Chg.refl _ _), HG8, hide fun _ h => h⟩
 case round =>
  obtain ⟨left, cnt, hrg, HR, HG, HL2⟩ := hrel
  go_wp2_with (at_next; refine wpList_next_ranges_ii _ rfl _ rfl 3 21 .i64 .i32 keyed_int Tryz.underlying3 Tryz.underlying21 p1.md (gd + 1) p1.nd _ _ _ rfl hrg ?_ ?_)
  · intro _ hl0
    have hWR : Chg w7 wr [gd] := (HC8.out.more (D' := [gd]) (by simp)).trans HR.out (fun k hk => by
     simp at hk
     rcases hk with rfl | rfl
     · exact .inl (by simp)
     · exact .inr (by have := HZ7.out; omega))
    have hq2l : w.heap.size < qm := by have := HQ2L.out; omega
    have n1 : w.heap.size ∉ [qm] := by simp; omega
    have n2 : w.heap.size ∉ [gd] := by simp; omega
    have hb2a := ((((HQ2.out.chg HC2.out (by simp)).chg HC3.out (by simp)).chg HX4.out n1).chg HC5.out (by simp)).chg HX6.out n1
    have hb27 := hb2a.chg HX7.out n1
    have hb2 := hb27.chg hWR n2
    have hbq := HB7.out.chg hWR (by simp; omega)
    have x0 := hbq.cell' (i := 0) rfl
    have x1 := hbq.cell' (i := 1) rfl
    have x2 := hbq.cell' (i := 2) rfl
    have x3 := hbq.cell' (i := 3) rfl
    have x4 := hbq.cell' (i := 4) rfl
    have v0 := hb2.cell' (i := 0) rfl
    have v1 := hb2.cell' (i := 1) rfl
    have v2 := hb2.cell' (i := 2) rfl
    have v3 := hb2.cell' (i := 3) rfl
    have v4 := hb2.cell' (i := 4) rfl
    have k0 := hb2.frozen 0
    have k1 := hb2.frozen 1
    have k2 := hb2.frozen 2
    have k3 := hb2.frozen 3
    have k4 := hb2.frozen 4
    have hblt := hb2.lt
    have HB2 := hide hb2
    have HB2A := hide hb2a
    have HB27 := hide hb27
    have HWR := hide hWR
    have HL0 := hide hl0
    clear hb2 hb2a hb27 hWR hbq hl0 hrg hltb7 n1 n2
    go_wp2
    have hfb := ((((HB2.out.set_ 0 (.slice Ac (u32s l).length cc)).set_ 1 (.slice (some ⟨gd, 0, none⟩) s.used s.used)).set_ 2 (.slice As (secsOf s.rr.reverse).length cs)).set_ 3 (.slice Ai s.ri.length ci)).set_ 4 (.slice Ao s.ro.length co)
    have hcf : Chg wr (((((wr.setCell ⟨w.heap.size, 0, none⟩ (.slice Ac (u32s l).length cc)).setCell ⟨w.heap.size, 1, none⟩ (.slice (some ⟨gd, 0, none⟩) s.used s.used)).setCell ⟨w.heap.size, 2, none⟩ (.slice As (secsOf s.rr.reverse).length cs)).setCell ⟨w.heap.size, 3, none⟩ (.slice Ai s.ri.length ci)).setCell ⟨w.heap.size, 4, none⟩ (.slice Ao s.ro.length co)) [w.heap.size] := ((((((Chg.refl wr [w.heap.size]).setCell _ _ (.inl (List.mem_singleton.2 rfl))).setCell _ _ (.inl (List.mem_singleton.2 rfl))).setCell _ _ (.inl (List.mem_singleton.2 rfl))).setCell _ _ (.inl (List.mem_singleton.2 rfl))).setCell _ _ (.inl (List.mem_singleton.2 rfl)))
    refine bodyPost_ret (v := .agg #[.slice Ac (u32s l).length cc, .slice (some ⟨gd, 0, none⟩) s.used s.used, .slice As (secsOf s.rr.reverse).length cs, .slice Ai s.ri.length ci, .slice Ao s.ro.length co]) (results_cell_row rfl _ _ w.heap.size 29 _ (0, 0) _ rfl hfb Tryz.underlying29 rfl (by kernel_rfl)) rfl ?_
    generalize (((((wr.setCell ⟨w.heap.size, 0, none⟩ (.slice Ac (u32s l).length cc)).setCell ⟨w.heap.size, 1, none⟩ (.slice (some ⟨gd, 0, none⟩) s.used s.used)).setCell ⟨w.heap.size, 2, none⟩ (.slice As (secsOf s.rr.reverse).length cs)).setCell ⟨w.heap.size, 3, none⟩ (.slice Ai s.ri.length ci)).setCell ⟨w.heap.size, 4, none⟩ (.slice Ao s.ro.length co)) = wf at *
    have hz12 := HC2.out.size
    have hz23 := HC3.out.size
    have hz34 := HX4.out.size
    have hz45 := HC5.out.size
    have hz56 := HX6.out.size
    have hzx := HB4.out.lt
    have hcF : Chg w7 wf [gd, w.heap.size] := (HWR.out.more (D' := [gd, w.heap.size]) (fun k hk => .inl (by simp at hk ⊢; exact .inl hk))).trans hcf (fun k hk => .inl (by simp at hk ⊢; exact .inr hk))
    have hcA : Chg w w7 (p.foot b.a) := by
     have h1 : Chg w1 w7 [] := (((((HC2.out.trans HC3.out (by simp)).trans HX4.out (fun k hk => by simp at hk; exact .inr (by omega))).trans HC5.out (by simp)).trans HX6.out (fun k hk => by simp at hk; exact .inr (by omega))).trans HX7.out (fun k hk => by simp at hk; exact .inr (by omega)))
     exact HC1.out.trans h1 (by simp)
    refine ⟨_, rfl, hcA.trans hcF (fun k hk => ?_), _, _, _, _, _, rfl, ?_, ?_, ?_, ?_, ?_⟩
    · simp at hk
      rcases hk with rfl | rfl
      · exact .inr (by have := HC1.out.size; omega)
      · exact .inr (Nat.le_refl _)
    · refine HSL7.out.chg0 hcF (fun h0 A n c he hm => ?_)
      have hfar := sl_far HB27.out HSL7.out (fun u hu hx => by
       obtain ⟨y, _, rfl⟩ := List.mem_map.1 hx
       simp at hu) h0 A n c he
      simp at hm hfar
      rcases hm with hm | hm
      · have h6 := HSL6.out
        rw [he] at h6
        obtain ⟨b', off, hA, _, hlt'⟩ := h6.at_ (k := 0) (List.getElem?_eq_getElem h0)
        injection hA with hA
        subst hA
        simp at hm
        omega
      · exact hfar hm
    · have hgf := (HG.out.chg hcf (by simp; omega))
      rw [dataUp_end s HL0.out] at hgf
      have hlen : s.used = (i32s (dataL s)).length := by simp [i32s, dataL]
      exact Sl.blk' hgf hlen (Nat.le_refl _)
    · refine (Sl.own HO7.out).chg hcF (fun A n c he hm => ?_)
      injection he with he1 he2 he3
      have hob : (Value.slice As (secsOf s.rr.reverse).length cs).ownBlock = some A.block := by rw [he1]; rfl
      have h1 := HO6.out.lt A.block hob
      simp at hm
      omega
    · have hin7 : Sl w7 (.slice Ai s.ri.length ci) (ints s.ri.reverse) := by
       have := Sl.own HP7.out.inn
       rw [HAI.out] at this
       exact this
      refine hin7.chg hcF (fun A n c he hm => ?_)
      injection he with he1 he2 he3
      have hob : A.block ∈ p1.foot b.a := KP.mem_part (i := 7) (by show A.block ∈ p1.iv.ownBlock.toList; rw [HAI.out, he1]; simp [Value.ownBlock])
      have h1 := HP6.out.flt _ hob
      simp at hm
      rcases hm with hm | hm
      · omega
      · exact HQ2N.out (hm ▸ hob)
    · have hin7 : Sl w7 (.slice Ao s.ro.length co) (ints s.ro.reverse) := by
       have := Sl.own HP7.out.out
       rw [HAO.out] at this
       exact this
      refine hin7.chg hcF (fun A n c he hm => ?_)
      injection he with he1 he2 he3
      have hob : A.block ∈ p1.foot b.a := KP.mem_part (i := 8) (by show A.block ∈ p1.ov.ownBlock.toList; rw [HAO.out, he1]; simp [Value.ownBlock])
      have h1 := HP6.out.flt _ hob
      simp at hm
      rcases hm with hm | hm
      · omega
      · exact HQ2N.out (hm ▸ hob)
  · intro x c w9 cnt1 hwx hwc hlx hat hrg1 hlt1 hg1 hs1 hen
    have hc9 : Chg wr w9 [gd + 1] := Chg.of_grown hg1 (fun k hk => by injection hk with hk; exact .inl (by subst hk; simp))
    have hfx : findD s.data x = some c := by
     obtain ⟨h1, h2⟩ := HFD.out (.int .i64 x) trivial
     rw [HL2.out _ hlx] at h1
     have h1 : true = ((findD s.data x).map (Lit.int .i32)).isSome := h1
     have h2 : ∀ z, D.atKey (.int .i64 x) (.lit z) = .lit (((findD s.data x).map (Lit.int .i32)).getD z) := h2
     cases hx : findD s.data x with
     | none => rw [hx] at h1; cases h1
     | some y =>
      rw [hx] at h2
      have h3 := (h2 (.int .i32 0)).symm.trans (hat _)
      simp at h3
      rw [h3]
    obtain ⟨q, hq, hqx⟩ := findD_mem hfx
    have hqu := HQ5.out q hq
    obtain ⟨a, rfl⟩ : ∃ a : Nat, x = (a : Int) := ⟨q.1, hqx.symm⟩
    have hqa : q.1 = a := by omega
    rw [hqa] at hqu
    have HFX := hide hfx
    have hWR : Chg w7 wr [gd] := (HC8.out.more (D' := [gd]) (by simp)).trans HR.out (fun k hk => by
     simp at hk
     rcases hk with rfl | rfl
     · exact .inl (by simp)
     · exact .inr (by have := HZ7.out; omega))
    have hgd9 := HG.out.chg hc9 (by simp)
    have hqm9 := (HB7.out.chg hWR (by simp; omega)).chg hc9 (by simp; omega)
    have x1 := hqm9.cell' (i := 1) rfl
    have hln : a < (dataUp s left).length := by rw [dataUp_len]; exact hqu
    have xa := hgd9.cell' (i32s_at _ a hln)
    have fa := hgd9.frozen a
    have hgl := hgd9.lt
    have hia : decide ((a : Int) < 0) = false := decide_eq_false (by omega)
    have hib : decide ((a : Int) < (s.used : Int)) = true := decide_eq_true (by omega)
    have HG9 := hide hgd9
    have HC9 := hide hc9
    have HRG := hide hrg1
    have HRG0 := hide hrg
    have HLT := hide hlt1
    have hne1 : some p1.md ≠ some gd := fun e => by
     injection e with e
     have := HP6.out.flt p1.md (KP.mem_part (i := 3) (by simp [KP.part]))
     omega
    clear hgd9 hqm9 hWR hc9 hfx hrg1 hrg hlt1 hg1 hq hqx hlx hat
    go_wp2
    go_roundw
    case rel =>
     refine ⟨_, cnt1, HRG.out.kept (grown_setCell _ _ _ _) hne1 (by simp), hide ((HR.out.trans (HC9.out.more (D' := [gd, gd + 1]) (fun k hk => .inl (by simp at hk ⊢; exact .inr hk))) (fun k hk => .inl hk)).setCell ⟨gd, a, none⟩ _ (.inl (by simp))), hide ?_, hide ?_⟩
     · rw [dataUp_step s hqu HFX.out, i32s_set]
       exact HG9.out.set_ a (.int .i32 c)
     · intro kl hkl
       simp only [Bool.and_eq_true] at hkl
       exact HL2.out kl hkl.1
    case measure =>
     rw [(HRG.out.kept (grown_setCell _ gd a (.int .i32 c)) hne1 (by simp)).left_eq, HRG0.out.left_eq]
     exact HLT.out
end
end Go.Proofs.YthnhilghjadigaaGreatDoor

/- emit.Again, emit.Run. -/
namespace Go.Proofs.YthnhilghjadigaaGreatDoor
open Go Go.RowKit Go.Deep Go.Maps Go.Proofs.YthnhilghjadigaaGreatDoor.Ab
set_option linter.unusedVariables false
attribute [local go_sem] Oper.semAt_some
def pokesL : List Nat → List Int → List Int → List Int
 | a :: aS, x :: xs, ws => pokesL aS xs (ws.set a x)
 | _, _, ws => ws
theorem pokes_len : ∀ (aS : List Nat) (xs ws : List Int), (pokesL aS xs ws).length = ws.length
 | [], _, _ => rfl
 | _ :: _, [], _ => rfl
 | a :: aS, x :: xs, ws => by
  show (pokesL aS xs (ws.set a x)).length = _
  rw [pokes_len aS xs, List.length_set]
theorem pokes_snoc : ∀ (aS : List Nat) (xs ws : List Int) (a : Nat) (x : Int), aS.length = xs.length → pokesL (aS ++ [a]) (xs ++ [x]) ws = (pokesL aS xs ws).set a x
 | [], [], ws, a, x, _ => rfl
 | [], _ :: _, _, _, _, h => by simp at h
 | _ :: _, [], _, _, _, h => by simp at h
 | b :: aS, y :: xs, ws, a, x, h => pokes_snoc aS xs (ws.set b y) a x (by simpa using h)
theorem ImgAt.keep {w w' : World} {v : Value} {code data : List Int} {sec : List Bool} {ins outs : List Nat} (h : ImgAt w v code data sec ins outs) (hc : Chg w w' []) : ImgAt w' v code data sec ins outs := by
 obtain ⟨c, d, se, i, o, rfl, h1, h2, h3, h4, h5⟩ := h
 exact ⟨c, d, se, i, o, rfl, h1.keep hc, h2.keep hc, h3.keep hc, h4.keep hc, h5.keep hc⟩
theorem sl_open {w : World} {v : Value} {xs : List Value} (h : Sl w v xs) : ∃ A c, v = .slice A xs.length c ∧ ∀ (j : Nat) (u : Value), xs[j]? = some u → ∃ b off, A = some ⟨b, off, none⟩ ∧ w.cell? ⟨b, off + j, none⟩ = some u ∧ b < w.heap.size := by
 obtain ⟨A, c, rfl, _⟩ := id h
 exact ⟨A, c, rfl, fun j u hj => h.at_ hj⟩
theorem ints_at {l : List Nat} {j a : Nat} (h : l[j]? = some a) : (ints l)[j]? = some (.int .i64 (a : Int)) := by simp [ints, h]
theorem ints_length (l : List Nat) : (ints l).length = l.length := List.length_map ..
theorem i32s_length (l : List Int) : (i32s l).length = l.length := List.length_map ..
theorem own_low {w : World} {base base' e size n : Nat} {v : Value} {xs : List Value} (h : w.ownsRow base e size v n xs) (hb : base' ≤ base) : w.ownsRow base' e size v n xs := by
 refine ⟨h.1, ?_⟩
 rcases h.2 with hn | ⟨g, cap, cur, rfl, hg, rest⟩
 · exact .inl hn
 · exact .inr ⟨g, cap, cur, rfl, Nat.le_trans hb hg, rest⟩
section
variable {w0 w : World} {c : Nat} {words : List Nat} {s : CS} {ws : List Int} {F : List Nat}
set_option maxRecDepth 100000 in
set_option maxHeartbeats 4000000 in
theorem again_calls (h : CoreAt w c words s ws F) (h0 : Chg w0 w []) (hF : ∀ k ∈ F, w0.heap.size ≤ k) (hg : Glo w0) {v vin : Value} {code data : List Int} {sec : List Bool} {ins outs : List Nat} {xs : List Int} (him : ImgAt w0 v code data sec ins outs) (hin : Sl w0 vin (i32s xs)) (hl : xs.length = ins.length)
 (hins : ∀ a ∈ ins, a < ws.length) (hil : ins.length ≤ 2048) (hol : outs.length ≤ 2048) {mem : List Wd} (hm : mem.map (·.v) = pokesL ins xs ws) {N : Nat} {m' : Ma} (hr : Ab.Reach (Nx words) N (ma0 mem) m') (hst : m'.st = 1) (hwl : words.length ≤ 60000) (hN : N ≤ 1048000)
 {vals : List Int} (hvl : vals.length = outs.length) (hv : ∀ (j a : Nat) (x : Int), outs[j]? = some a → vals[j]? = some x → (wsM m')[a]? = some x) :
 Calls Tryz.prog 51 #[.pointer (some ⟨c, 0, none⟩), v, vin] w fun e w' => ∃ u F', e = .returned u ∧ Chg w w' F ∧ Sub F' F w ∧ CoreAt w' c words (csM m') (wsM m') F' ∧ w'.ownsRow w.heap.size 21 1 u outs.length (i32s vals) := by
 obtain ⟨i0, hi0, hz0, hz1, hz2⟩ := info_parts info_i32
 obtain ⟨vc, vd, vs, vi, vo, rfl, g1, g2, g3, g4, g5⟩ := him
 obtain ⟨Ac, cc, rfl, _⟩ := id g1
 obtain ⟨Ad, cd, rfl, _⟩ := id g2
 obtain ⟨As, cs, rfl, _⟩ := id g3
 obtain ⟨Ai, ci, rfl, hi⟩ := sl_open g4
 obtain ⟨Ao, co, rfl, ho⟩ := sl_open g5
 obtain ⟨Ax, cx, rfl, hx⟩ := sl_open hin
 have HL := hide hl
 simp only [i32s_length, ints_length] at *
 rw [hl]
 clear hl
 have H := hide h
 have H0 := hide h0
 have HF := hide hF
 have HI := hide hi
 have HO := hide ho
 have HX := hide hx
 have HINS := hide hins
 have HV := hide hv
 have HM := hide hm
 have HR := hide hr
 have HQ := hide hg.size
 clear h h0 hF hi ho hx hins hv hm hr g1 g2 g3 g4 g5 hin hg
 go_enter Tryz.func51, Tryz.ntmps51
 have hq := Blk.new w 29 [.slice Ac (u32s code).length cc, .slice Ad data.length cd, .slice As (bools sec).length cs, .slice Ai ins.length ci, .slice Ao outs.length co]
 have HQI := hide hq
 have hHF := fun k hk => H.out.lt k hk
 have HLT := hide hHF
 clear hq hHF
 go_wp2_with fail
 go_loopw [7, 8, 17] (fun _ _ i wr => ∃ j : Nat, j ≤ ins.length ∧ i = .int .i64 j ∧ Hid (Chg w wr F) ∧ Hid (CoreAt wr c words s (pokesL (ins.take j) (xs.take j) ws) F) ∧ Hid (Blk wr w.heap.size 29 [.slice Ac (u32s code).length cc, .slice Ad data.length cd, .slice As (bools sec).length cs, .slice Ai ins.length ci, .slice Ao outs.length co])) (fun _ _ i _ => ins.length - (intOf i).toNat)
 case atStart => exact ⟨0, Nat.zero_le _, rfl, hide ((Chg.refl w F).alloc _), hide (by simp only [List.take_zero]; exact H.out.chg0 ((Chg.refl w []).alloc _)), HQI⟩
 case round =>
  obtain ⟨j, hj, rfl, HC, HK, HB⟩ := hrel
  by_cases hlt : j < ins.length
  · obtain ⟨a, hja⟩ : ∃ a, ins[j]? = some a := ⟨ins[j], by simp [hlt]⟩
    obtain ⟨x, hjx⟩ : ∃ x, xs[j]? = some x := ⟨xs[j]'(by have := HL.out; omega), by simp⟩
    have hw0 : Chg w0 wr [] := H0.out.trans HC.out (fun k hk => .inr (HF.out k hk))
    obtain ⟨bi, oi, rfl, hci, hbi⟩ := HI.out j _ (ints_at hja)
    obtain ⟨bx, ox, rfl, hcx, hbx⟩ := HX.out j _ (show (i32s xs)[j]? = some (.int .i32 x) by simp [i32s, hjx])
    have ci := hw0.cell hci (by simp)
    have cx' := hw0.cell hcx (by simp)
    have hpk := ipoke_calls HK.out a x (by rw [pokes_len]; exact HINS.out a (List.mem_of_getElem? hja))
    have hset : (pokesL (ins.take j) (xs.take j) ws).set a x = pokesL (ins.take (j + 1)) (xs.take (j + 1)) ws := by
     rw [List.take_add_one, hja, List.take_add_one, hjx]
     exact (pokes_snoc _ _ _ a x (by have := HL.out; simp; omega)).symm
    rw [hset] at hpk
    clear hset hci hcx hw0 hja hjx
    go_wp2_with fail
    go_at_call 27
    refine hpk.mono ?_
    rintro e w2 ⟨rfl, hc2, hk2⟩
    have HC2 := hide hc2
    have HK2 := hide hk2
    clear hc2 hk2 hpk
    go_wp2
    go_roundw
    case rel => exact ⟨j + 1, by omega, by go_num, hide (HC.out.trans HC2.out (fun k hk => .inl hk)), HK2, hide (HB.out.chg HC2.out (fun hm => by have := HLT.out _ hm; omega))⟩
    case measure => simp [intOf]; omega
  · have hjl : j = ins.length := by omega
    subst hjl
    rw [List.take_length, List.take_of_length_le (by have := HL.out; omega)] at HK
    have hbg := ibegin_calls HK.out
    have HC1 := HC
    have HB1 := HB
    go_wp2_with fail
    go_at_call 76
    refine hbg.mono ?_
    rintro e w2 ⟨rfl, hc2, F2, hs2, hk2⟩
    have hc12 : Chg w w2 F := HC.out.trans hc2 (fun k hk => .inl hk)
    have hb2 := HB.out.chg hc2 (fun hm => by have := HLT.out _ hm; omega)
    have hs12 : Sub F2 F w := fun k hk => (hs2 k hk).imp_right (fun h => Nat.le_trans HC.out.size h)
    have hq2 : w.heap.size ∉ F2 := far_sub hs2 (fun hm => by have := HLT.out _ hm; omega) HB.out.lt
    have hrn := irun_calls hk2 (by have := HQ.out; have := H0.out.size; have := hc12.size; omega) HM.out HR.out hst hwl hN
    have HC2 := hide hc12
    have HB2 := hide hb2
    have HS2 := hide hs12
    have HQ2 := hide hq2
    clear hc2 hs2 hk2 hbg hc12 hb2 hs12 hq2
    go_wp2_with fail
    go_at_call 28
    refine hrn.mono ?_
    rintro e w3 ⟨⟨n, rfl⟩, hc3, F3, hs3, hk3⟩
    have HC3 : Hid (Chg w w3 F) := hide (HC2.out.trans hc3 (fun k hk => HS2.out k hk))
    have HB3 := hide (HB2.out.chg hc3 HQ2.out)
    have HS3 : Hid (Sub F3 F w) := hide (fun k hk => by
     rcases hs3 k hk with h | h
     · exact HS2.out k h
     · exact .inr (Nat.le_trans HC2.out.size h))
    have HK3 := hide hk3
    clear hc3 hs3 hk3 hrn
    have y4 := HB3.out.cell' (i := 4) rfl
    go_wp2_with fail
    go_loopw [9, 11, 12, 13, 41] (fun v _ _ _ i wr => ∃ j : Nat, j ≤ outs.length ∧ i = .int .i64 j ∧ Hid (Chg w3 wr []) ∧ Hid (wr.ownsRow w3.heap.size 21 1 v j (i32s (vals.take j)))) (fun _ _ _ _ i _ => outs.length - (intOf i).toNat)
    case atStart => exact ⟨0, Nat.zero_le _, rfl, hide (Chg.refl _ _), hide (World.ownsRow_nil _ _ _ _)⟩
    case round =>
     obtain ⟨j, hj, rfl, HR3, HO3⟩ := hrel
     by_cases hlt : j < outs.length
     · obtain ⟨a, hja⟩ : ∃ a, outs[j]? = some a := ⟨outs[j], by simp [hlt]⟩
       obtain ⟨x, hjx⟩ : ∃ x, vals[j]? = some x := ⟨vals[j]'(by omega), by simp⟩
       have hw3 : Chg w0 w3 [] := H0.out.trans HC3.out (fun k hk => .inr (HF.out k hk))
       obtain ⟨bo, oo, rfl, hco, hbo⟩ := HO.out j _ (ints_at hja)
       have co' := (hw3.trans HR3.out (by simp)).cell hco (by simp)
       have hld := iload_calls (HK3.out.chg0 HR3.out) a x (HV.out j a x hja hjx)
       have htk : i32s (vals.take (j + 1)) = i32s (vals.take j) ++ [.int .i32 x] := by
        rw [List.take_add_one, hjx]
        simp [i32s]
       have HTK := hide htk
       obtain ⟨V, vc, rfl⟩ := own_slice HO3.out
       have hzw : w.heap.size ≤ w3.heap.size := HC3.out.size
       have HZW := hide hzw
       clear hja hjx hw3 hco htk hzw
       go_wp2_with fail
       go_at_call 29
       refine hld.mono ?_
       rintro e w4 ⟨rfl, hc4⟩
       have HC4 := hide (HR3.out.trans hc4 (by simp))
       have HO4 := hide (own_chgD HO3.out hc4 (by simp))
       clear hc4 hld
       go_wp2_with (at_builtin; refine wpList_append_own _ rfl _ _ 25 rfl w3.heap.size 21 i0 (.int .i32 0) 1 4 Tryz.underlying25 hi0 hz0 hz1 hz2 rfl (by decide) _ j _ rfl (HO4.out.alloc _) ⟨w4.heap.size, 0, none⟩ 1 1 [.int .i32 x] rfl rfl ?c1 ?c2 ?c3 ?c4 ?c5 ?_)
       case c1 =>
        intro j u hj
        match j, hj with
        | 0, hj => simp at hj; subst hj; simp [Addr.add]
       case c2 => intro u hu; simp at hu; subst hu; rfl
       case c3 => unfold maxLen; omega
       case c4 => omega
       case c5 => have := HC4.out.size; have := HZW.out; simp; omega
       intro v' w5 hown' hgrow _
       have HG : Hid (Chg w3 w5 []) := hide ((HC4.out.alloc _).trans (D' := (Value.slice V j vc).ownBlock.toList) (Chg.of_grown hgrow (fun k hk => .inl (by simp [hk]))) (fun k hk => .inr (HO4.out.lt k (by simpa using hk)).1))
       have HO5 := hide hown'
       obtain ⟨A6, c6, hv'⟩ := own_slice hown'
       clear hown' hgrow
       go_wp2
       go_roundw
       case rel => exact ⟨j + 1, by omega, by go_num, HG, hide (by rw [HTK.out]; exact HO5.out)⟩
       case measure => simp [intOf]; omega
     · have hjl : j = outs.length := by omega
       subst hjl
       go_wp2
       go_ret
       have ho := HO3.out
       rw [List.take_of_length_le (by omega)] at ho
       exact ⟨_, F3, rfl, HC3.out.trans HR3.out (by simp), HS3.out, HK3.out.chg0 HR3.out, own_low ho HC3.out.size⟩
end
end Go.Proofs.YthnhilghjadigaaGreatDoor

/- emit.Run. -/
namespace Go.Proofs.YthnhilghjadigaaGreatDoor
open Go Go.RowKit Go.Deep Go.Maps Go.Proofs.YthnhilghjadigaaGreatDoor.Ab
set_option linter.unusedVariables false
attribute [local go_sem] Oper.semAt_some
structure Way (words : List Nat) (data : List Int) (ins outs : List Nat) (xs vals : List Int) (ks : List Mk) : Prop where
 enc : (words.map decN).map encI = words.map fun n : Nat => (n : Int)
 chk : ∀ i ∈ words.map decN, chkI i = 0
 wl : words.length ≤ 16384
 dl : data.length ≤ 2048
 il : ins.length ≤ 2048
 ol : outs.length ≤ 2048
 xl : xs.length = ins.length
 insd : ∀ a ∈ ins, a < data.length
 vl : vals.length = outs.length
 k0 : 0 < ks.length
 kl : ks.length ≤ 1048576
 run : ∃ mem N m', mem.map (·.v) = pokesL ins xs data ∧ Ab.Reach (Nx words) N (ma0 mem) m' ∧ m'.st = 1 ∧ N ≤ 1048000 ∧ m'.ks = ks ∧ (∀ (j a : Nat) (x : Int), outs[j]? = some a → vals[j]? = some x → (wsM m')[a]? = some x)
theorem u32s_length (l : List Int) : (u32s l).length = l.length := List.length_map ..
section
variable {w : World} {words : List Nat} {data : List Int} {ins outs : List Nat} {xs vals : List Int} {ks : List Mk}
set_option maxRecDepth 100000 in
set_option maxHeartbeats 2000000 in
theorem erun_calls (hg : Glo w) {v vin : Value} {sec : List Bool} (him : ImgAt w v (words.map fun n : Nat => (n : Int)) data sec ins outs) (hin : Sl w vin (i32s xs)) (hw : Way words data ins outs xs vals ks) :
 Calls Tryz.prog 21 #[v, vin] w fun e w' => ∃ u, e = .returned (.tuple #[u, .int .i64 (sumC ks)]) ∧ Chg w w' [] ∧ w'.ownsRow w.heap.size 21 1 u outs.length (i32s vals) := by
 obtain ⟨mem, N, m', hm, hr, hst, hN, hks, hv⟩ := hw.run
 have HIM := hide him
 obtain ⟨vc, vd, vs, vi, vo, rfl, g1, g2, g3, g4, g5⟩ := him
 obtain ⟨Ac, cc, rfl, _⟩ := id g1
 obtain ⟨Ad, cd, rfl, _⟩ := id g2
 obtain ⟨As, cs, rfl, _⟩ := id g3
 obtain ⟨Ai, ci, rfl, _⟩ := id g4
 obtain ⟨Ao, co, rfl, _⟩ := id g5
 obtain ⟨Ax, cx, rfl, _⟩ := id hin
 have e1 : (u32s (words.map fun n : Nat => (n : Int))).length = words.length := by rw [u32s_length, List.length_map]
 simp only [e1, i32s_length, ints_length] at *
 have hzi : (w.alloc (.cells #[.slice Ac words.length cc, .slice Ad data.length cd, .slice As (bools sec).length cs, .slice Ai ins.length ci, .slice Ao outs.length co] 29)).heap.size = w.heap.size + 1 := size_alloc _ _
 have hnew := inew_calls (hg.chg ((Chg.refl w []).alloc (.cells #[.slice Ac words.length cc, .slice Ad data.length cd, .slice As (bools sec).length cs, .slice Ai ins.length ci, .slice Ao outs.length co] 29)) (by simp)) Ac Ad cc cd words data (g1.keep ((Chg.refl w []).alloc _)) (g2.keep ((Chg.refl w []).alloc _)) hw.enc hw.chk hw.wl hw.dl
 have hq := Blk.new w 29 [.slice Ac words.length cc, .slice Ad data.length cd, .slice As (bools sec).length cs, .slice Ai ins.length ci, .slice Ao outs.length co]
 have HG := hide hg
 have HIN := hide hin
 have HW := hide hw
 have HM := hide hm
 have HR := hide hr
 have HKS := hide hks
 have HV := hide hv
 have HQ := hide hq
 clear hg hin hw hm hr hks hv g1 g2 g3 g4 g5 e1 hq
 go_enter Tryz.func21, Tryz.ntmps21
 go_wp2_with fail
 go_at_call 26
 refine hnew.mono ?_
 rintro e w1 ⟨c, F, rfl, hc1, hk1, hf1⟩
 have hcw : Chg w w1 [] := ((Chg.refl w []).alloc _).trans hc1 (by simp)
 have hF : ∀ k ∈ F, w.heap.size ≤ k := fun k hk => by have := hf1 k hk; omega
 have hag := again_calls hk1 hcw hF HG.out HIM.out HIN.out HW.out.xl HW.out.insd HW.out.il HW.out.ol HM.out HR.out hst (by have := HW.out.wl; omega) hN HW.out.vl HV.out
 have HQ1 := hide (HQ.out.chg hc1 (by simp))
 have HCW := hide hcw
 have HF := hide hF
 have y0 := HQ1.out.cell' (i := 0) rfl
 have y1 := HQ1.out.cell' (i := 1) rfl
 have y2 := HQ1.out.cell' (i := 2) rfl
 have y3 := HQ1.out.cell' (i := 3) rfl
 have y4 := HQ1.out.cell' (i := 4) rfl
 clear hnew hc1 hk1 hf1 hcw hF hzi
 go_wp2_with fail
 go_at_call 51
 refine hag.mono ?_
 rintro e w2 ⟨u, F2, rfl, hc2, hs2, hk2, ho2⟩
 have hcy := icycles_calls hk2
 have HC2 : Hid (Chg w w2 []) := hide (HCW.out.trans hc2 (fun k hk => .inr (HF.out k hk)))
 have HO2 := hide ho2
 obtain ⟨U, cu, rfl⟩ := own_slice ho2
 have hcost : (csM m').cost = sumC ks := by rw [← HKS.out]; rfl
 rw [hcost] at hcy
 have HZ := hide HCW.out.size
 clear hag hc2 hs2 hk2 ho2
 go_wp2_with fail
 go_at_call 52
 refine hcy.mono ?_
 rintro e w3 ⟨rfl, rfl⟩
 go_wp2
 go_ret2
 exact ⟨_, rfl, HC2.out, own_low HO2.out HZ.out⟩
end
end Go.Proofs.YthnhilghjadigaaGreatDoor
