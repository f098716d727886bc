/- Cost and Leaks of package ops and of the reference. -/
import Derived.Test.YtidceolaemikgaaDoorOpsPlain
namespace Go.Proofs.YtidceolaemikgaaDoor
open Go.RowKit Go.Deep Go.Shelf
set_option linter.unusedVariables false

def costsL : List Int := [1, 1, 1, 1, 1, 1, 1, 1, 1, 1, 1, 1, 1, 1, 1, 1, 1, 3, 3, 3, 3, 2, 2, 1, 1, 1, 1, 1, 1, 1, 1, 1, 1, 2, 2, 1, 1, 1, 3, 3, 3, 1, 1]
abbrev CTab (w : World) : Prop := Lib.TabIs Tryd.prog w "astrolabe/ops.costs" .i64 costsL
def l3 : List Int := [18, 19, 20, 21, 39, 40, 41]
def l2 : List Int := [22, 23, 34, 35]
def lk : List Int := [22, 23, 34, 35, 36, 37, 38, 41]
def costOf (op : Int) : Int := if isOp op = true then (if op ∈ l3 then 3 else if op ∈ l2 then 2 else 1) else 0
def leakOf (op : Int) : Bool := decide (op ∈ lk)
theorem costs_all : ((List.range 43).all fun k => decide (costOf ((k : Int) + 1) = costsL.getD k 0)) = true := by kernel_rfl
theorem cost_at (op : Int) (h : isOp op = true) : costOf op = costsL.getD (op - 1).toNat 0 := by
  have h := of_decide_eq_true h
  have := of_decide_eq_true (List.all_eq_true.1 costs_all (op - 1).toNat (List.mem_range.2 (by omega)))
  rwa [show (((op - 1).toNat : Nat) : Int) + 1 = op by omega] at this

set_option maxRecDepth 100000 in
set_option maxHeartbeats 1000000 in
theorem cost_calls (op : Int) (w : World) (hc : CTab w) : Calls Tryd.prog 14 #[.int .i64 op] w fun e w' => e = .returned (.int .i64 (costOf op)) ∧ w = w' := by
  cases h : isOp op with
  | false =>
    have e : costOf op = 0 := by unfold costOf; rw [h]; rfl
    rw [e]
    clear hc
    go_enter Tryd.func14, Tryd.ntmps14
    go_wp2_with fail
    refine (is_calls _ _).mono ?_
    rintro e w1 ⟨rfl, rfl⟩
    rw [h]
    go_wp2
    go_ret
    exact ⟨rfl, rfl⟩
  | true =>
    have e := cost_at op h
    rw [e]
    have h' := of_decide_eq_true h
    have hcell := hc.cell (g := 0) (by kernel_rfl) (op - 1).toNat (show _ < 43 by omega)
    have hw : wrap64 (op - 1) = ((op - 1).toNat : Int) := by unfold wrap64; omega
    have hk : (op - 1).toNat < 43 := by omega
    generalize (op - 1).toNat = k at *
    generalize costsL.getD k 0 = x at *
    clear hc e h'
    go_enter Tryd.func14, Tryd.ntmps14
    go_wp2_with fail
    refine (is_calls _ _).mono ?_
    rintro e w1 ⟨rfl, rfl⟩
    rw [h]
    clear h
    go_wp2
    go_ret
    exact ⟨rfl, rfl⟩

theorem nm_ne : ((List.range 43).all fun k => !decide (nm k = ⟨#[]⟩)) = true := by kernel_rfl
theorem nameOf_ne (op : Int) (h : isOp op = true) : nameOf op ≠ ⟨#[]⟩ := by
  have h := of_decide_eq_true h
  unfold nameOf
  rw [if_pos h]
  have := List.all_eq_true.1 nm_ne (op - 1).toNat (List.mem_range.2 (by omega))
  simpa using this

theorem sl_new (w : World) (t : TypeId) (l : List Int) (cs : Array Value) (h : cs = (i64s l).toArray) : Sl (w.alloc (.cells cs t)) (.slice (some ⟨w.heap.size, 0, none⟩) l.length l.length) (i64s l) := by
  subst h
  exact Sl.blk' (Blk.new w t (i64s l)) (by simp [i64s]) (Nat.le_refl _)

set_option maxRecDepth 100000 in
set_option maxHeartbeats 1000000 in
theorem refcost_calls (op : Int) (w : World) (h0 : -9223372036854775808 ≤ op) (h1 : op ≤ 9223372036854775807) : Calls Tryd.prog 15 #[.int .i64 op] w fun e w' => e = .returned (.int .i64 (costOf op)) ∧ Below w.heap.size w w' := by
  cases h : isOp op with
  | false =>
    have e : costOf op = 0 := by unfold costOf; rw [h]; rfl
    have en : nameOf op = ⟨#[]⟩ := by unfold nameOf; rw [if_neg (by simpa [isOp] using h)]
    rw [e]
    go_enter Tryd.func15, Tryd.ntmps15
    go_wp2_with fail
    refine (refname_calls op _ h0 h1).mono ?_
    rintro e w1 ⟨rfl, hB⟩
    rw [en]
    have HB := hide hB
    clear hB
    go_wp2
    go_ret
    exact ⟨rfl, HB.out⟩
  | true =>
    have en := nameOf_ne op h
    have hb : (nameOf op).toList.isEmpty = false := by simpa using (Go.Lib.bytes_beq_false_iff _ _).2 en
    clear en
    have E1 : costOf op = if op ∈ l3 then 3 else if op ∈ l2 then 2 else 1 := by unfold costOf; rw [h]; rfl
    go_enter Tryd.func15, Tryd.ntmps15
    go_wp2_with fail
    refine (refname_calls op _ h0 h1).mono ?_
    rintro e w1 ⟨rfl, hB⟩
    have HB := hide hB
    clear hB h h0 h1
    generalize nameOf op = s at *
    go_wp2_with fail
    have H3 := sl_new w1 3 l3 _ rfl
    refine (in_any _ _ op l3 _ H3 (by decide)).mono ?_
    rintro e w2 ⟨rfl, hw⟩
    have HB1 : Hid (Below w.heap.size w w2) := hide (hw ▸ (HB.out.alloc HB.out.size _))
    clear H3 hw HB
    by_cases m3 : op ∈ l3
    · rw [if_pos m3] at E1
      rw [decide_eq_true m3]
      have HE := hide E1
      clear E1 m3
      go_wp2
      go_ret
      exact ⟨by rw [HE.out]; rfl, HB1.out⟩
    · rw [if_neg m3] at E1
      rw [decide_eq_false m3]
      clear m3
      go_wp2_with fail
      have H2 := sl_new w2 3 l2 _ rfl
      refine (in_any _ _ op l2 _ H2 (by decide)).mono ?_
      rintro e w3 ⟨rfl, hw⟩
      have HB2 : Hid (Below w.heap.size w w3) := hide (hw ▸ (HB1.out.alloc HB1.out.size _))
      clear H2 hw
      by_cases m2 : op ∈ l2
      · rw [if_pos m2] at E1
        rw [decide_eq_true m2]
        have HE := hide E1
        clear E1 m2
        go_wp2
        go_ret
        exact ⟨by rw [HE.out]; rfl, HB2.out⟩
      · rw [if_neg m2] at E1
        rw [decide_eq_false m2]
        have HE := hide E1
        clear E1 m2
        go_wp2
        go_ret
        exact ⟨by rw [HE.out]; rfl, HB2.out⟩

set_option maxRecDepth 100000 in
set_option maxHeartbeats 1000000 in
theorem refleaks_calls (op : Int) (w : World) : Calls Tryd.prog 19 #[.int .i64 op] w fun e w' => e = .returned (.bool (leakOf op)) ∧ Below w.heap.size w w' := by
  have HB := hide ((Below.refl _ w).alloc (Nat.le_refl _) (.cells (i64s lk).toArray 3))
  have H3 := sl_new w 3 lk _ rfl
  go_enter Tryd.func19, Tryd.ntmps19
  go_wp2_with fail
  refine (in_any _ _ op lk _ H3 (by decide)).mono ?_
  rintro e w2 ⟨rfl, rfl⟩
  clear H3
  go_wp2
  go_ret
  exact ⟨rfl, HB.out⟩

def lkNm (k : Nat) : ByteArray := ⟨(leakL.getD k []).toArray⟩
theorem lkNm_find : ((List.range 8).all fun k => decide (findOf (lkNm k) = lk.getD k 0)) = true := by kernel_rfl
theorem lkNm_at (k : Nat) (hk : k < 8) : findOf (lkNm k) = lk.getD k 0 := of_decide_eq_true (List.all_eq_true.1 lkNm_find k (List.mem_range.2 hk))
theorem lk_cell {W : World} {q : Nat} (h : Blk W q 9 (leakL.map fun l => Value.string ⟨l.toArray⟩)) (k : Nat) (hk : k < 8) : W.cell? ⟨q, k, none⟩ = some (.string (lkNm k)) := by
  refine h.cell' ?_
  have hl : k < leakL.length := hk
  rw [List.getElem?_map, List.getElem?_eq_getElem hl]
  unfold lkNm
  rw [List.getD_eq_getElem?_getD, List.getElem?_eq_getElem hl]
  rfl
theorem leak_isOp (op : Int) (h : isOp op = false) : leakOf op = false := by
  unfold isOp at h
  unfold leakOf lk
  have h := of_decide_eq_false h
  simp; omega

set_option maxRecDepth 100000 in
set_option maxHeartbeats 1000000 in
theorem leaks_calls (op : Int) (w : World) (ht : Tab w) : Calls Tryd.prog 18 #[.int .i64 op] w fun e w' => e = .returned (.bool (leakOf op)) ∧ Below w.heap.size w w' := by
  cases h : isOp op with
  | false =>
    rw [leak_isOp op h]
    have HB := hide (Below.refl w.heap.size w)
    clear ht
    go_enter Tryd.func18, Tryd.ntmps18
    go_wp2_with fail
    refine (is_calls _ _).mono ?_
    rintro e w1 ⟨rfl, rfl⟩
    rw [h]
    go_wp2
    go_ret
    exact ⟨rfl, HB.out⟩
  | true =>
    have HT := hide ht
    clear ht
    go_enter Tryd.func18, Tryd.ntmps18
    go_wp2_with fail
    refine (is_calls _ _).mono ?_
    rintro e w1 ⟨rfl, rfl⟩
    rw [h]
    clear h
    go_wp2_with fail
    change Calls _ _ #[.string leakText] _ _
    refine (fields_leaks _ HT.out).mono ?_
    rintro e w1 ⟨rfl, rfl⟩
    have hb : Hid (Blk (w.alloc (.cells (leakL.map fun l => Value.string ⟨l.toArray⟩).toArray 9)) w.heap.size 9 (leakL.map fun l => Value.string ⟨l.toArray⟩)) := hide (World.alloc_heap_new w _)
    have HB := hide ((Below.refl _ w).alloc (Nat.le_refl _) (.cells (leakL.map fun l => Value.string ⟨l.toArray⟩).toArray 9))
    have HT1 := hide (HT.out.below HB.out)
    clear HT
    generalize (w.alloc (.cells (leakL.map fun l => Value.string ⟨l.toArray⟩).toArray 9)) = w1 at *
    generalize hq : w.heap.size = q at hb
    go_wp2
    go_loopw [10] (fun i wr => ∃ k : Nat, k ≤ 8 ∧ i = .int .i64 k ∧ Hid (op ∉ lk.take k) ∧ Hid (Below w1.heap.size w1 wr)) (fun i _ => 8 - (intOf i).toNat)
    case atStart => exact ⟨0, Nat.zero_le _, rfl, hide (List.not_mem_nil), hide (Below.refl _ _)⟩
    case round =>
      obtain ⟨k, hk, rfl, HN, HR⟩ := hrel
      by_cases hlt : k < 8
      · have hbr : Blk wr q 9 (leakL.map fun l => Value.string ⟨l.toArray⟩) := hb.out.chg (D := []) (Chg.of_below HR.out) (by simp)
        have hca := lk_cell hbr k hlt
        have HTr := hide (HT1.out.below HR.out)
        have HF := hide (lkNm_at k hlt)
        clear hbr
        go_wp2_with fail
        refine (Find_calls _ _ HTr.out).mono ?_
        rintro e w3 ⟨rfl, hB3⟩
        rw [HF.out]
        have HR3 := hide (HR.out.trans (hB3.mono HR.out.size))
        clear hB3 HTr HR
        by_cases he : lk.getD k 0 = op
        · have HE := hide (in_of_at (l := lk) hlt he)
          have hx : (op == op) = true := by simp
          rw [he]
          clear he
          go_wp2
          go_ret
          exact ⟨by unfold leakOf; rw [decide_eq_true HE.out]; rfl, (HB.out.trans (HR3.out.mono HB.out.size))⟩
        · have HE := hide (not_in_take (l := lk) HN.out hlt he)
          have hx : (lk.getD k 0 == op) = false := by simpa using he
          clear he
          generalize lk.getD k 0 = x at *
          go_wp2
          go_roundw
          case rel => exact ⟨k + 1, by omega, by go_num, HE, HR3⟩
          case measure => simp [intOf]; omega
      · have hk : k = 8 := by omega
        subst hk
        go_wp2
        go_ret
        exact ⟨by unfold leakOf; rw [decide_eq_false (show op ∉ lk from HN.out)]; rfl, (HB.out.trans (HR.out.mono HB.out.size))⟩

end Go.Proofs.YtidceolaemikgaaDoor
