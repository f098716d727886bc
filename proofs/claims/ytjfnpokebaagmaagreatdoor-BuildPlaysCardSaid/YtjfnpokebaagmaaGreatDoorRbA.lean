/- The document's builder: what it has in memory; its names. -/
import Derived.Test.YtjfnpokebaagmaaGreatDoorPbD
namespace Go.Proofs.YtjfnpokebaagmaaGreatDoor
open Go.RowKit Go.Deep Go.Maps
set_option linter.unusedVariables false
attribute [local go_sem] Oper.semAt_some
/-- The document's builder's blocks. -/
structure RBS (w : World) (x : Nat) (cv dv uv : Value) (bm : BM) : Prop where
  blk : Blk w x 37 [cv, dv, uv]
  rc : w.ownsRow 0 25 5 cv bm.code.length (codeCells bm.code)
  rd : w.ownsRow 0 118 2 dv bm.defs.length (useCells bm.defs)
  ru : w.ownsRow 0 118 2 uv bm.uses.length (useCells bm.uses)
  ne : ∀ g, dv.ownBlock = some g → uv.ownBlock ≠ some g
def footR (x : Nat) (cv dv uv : Value) : List Nat := [x] ++ (cv.ownBlock.toList ++ (dv.ownBlock.toList ++ uv.ownBlock.toList))
def RB (w : World) (x : Nat) (bm : BM) (F : List Nat) : Prop := ∃ cv dv uv, RBS w x cv dv uv bm ∧ F = footR x cv dv uv
theorem RBS.chg {w w' : World} {x : Nat} {cv dv uv : Value} {bm : BM} {D : List Nat} (h : RBS w x cv dv uv bm) (hc : Chg w w' D) (hD : ∀ k ∈ footR x cv dv uv, k ∉ D) : RBS w' x cv dv uv bm where
  blk := h.blk.chg hc (hD x (by simp [footR]))
  rc := own_chgD h.rc hc (fun g hg => hD g (by simp [footR, hg]))
  rd := own_chgD h.rd hc (fun g hg => hD g (by simp [footR, hg]))
  ru := own_chgD h.ru hc (fun g hg => hD g (by simp [footR, hg]))
  ne := h.ne
theorem RB.chg {w w' : World} {x : Nat} {bm : BM} {F D : List Nat} (h : RB w x bm F) (hc : Chg w w' D) (hD : ∀ k ∈ F, k ∉ D) : RB w' x bm F := by
  obtain ⟨cv, dv, uv, hp, rfl⟩ := h
  exact ⟨cv, dv, uv, hp.chg hc hD, rfl⟩
theorem RBS.lt {w : World} {x : Nat} {cv dv uv : Value} {bm : BM} (h : RBS w x cv dv uv bm) : ∀ k ∈ footR x cv dv uv, k < w.heap.size := by
  intro k hk
  simp only [footR, List.mem_append, List.mem_singleton, Option.mem_toList] at hk
  rcases hk with rfl | hk | hk | hk
  · exact h.blk.lt
  · exact (h.rc.lt k hk).2
  · exact (h.rd.lt k hk).2
  · exact (h.ru.lt k hk).2
theorem RB.lt {w : World} {x : Nat} {bm : BM} {F : List Nat} (h : RB w x bm F) : ∀ k ∈ F, k < w.heap.size := by
  obtain ⟨cv, dv, uv, hp, rfl⟩ := h
  exact hp.lt
theorem RBS.ne' {w : World} {x : Nat} {cv dv uv : Value} {bm : BM} (h : RBS w x cv dv uv bm) : cv.ownBlock ≠ some x ∧ dv.ownBlock ≠ some x ∧ uv.ownBlock ≠ some x ∧ (∀ g, dv.ownBlock = some g → cv.ownBlock ≠ some g) ∧ (∀ g, uv.ownBlock = some g → cv.ownBlock ≠ some g) := by
  refine ⟨fun e => ?_, fun e => ?_, fun e => ?_, fun g hg e => ?_, fun g hg e => ?_⟩
  · obtain ⟨cur, hc⟩ := row_heap h.rc e
    exact obj_ne hc h.blk (by decide) rfl
  · obtain ⟨cur, hc⟩ := row_heap h.rd e
    exact obj_ne hc h.blk (by decide) rfl
  · obtain ⟨cur, hc⟩ := row_heap h.ru e
    exact obj_ne hc h.blk (by decide) rfl
  · obtain ⟨cur, hc⟩ := row_heap h.rd hg
    obtain ⟨cur', hc'⟩ := row_heap h.rc e
    exact obj_ne hc hc' (by decide) rfl
  · obtain ⟨cur, hc⟩ := row_heap h.ru hg
    obtain ⟨cur', hc'⟩ := row_heap h.rc e
    exact obj_ne hc hc' (by decide) rfl
def GoR (r : Int × BM) (x : Nat) (F : List Nat) (w : World) (e : Ending) (w' : World) : Prop := e = .returned (.int .i64 r.1) ∧ Chg w w' F ∧ ∃ F', Sub F' F w ∧ RB w' x r.2 F'
theorem GoR.mk2 {w w1 w2 : World} {e : Ending} {b : Nat} {F F1 : List Nat} {r : Int × BM} (h : Chg w w1 F) (hs : Sub F1 F w) (h2 : GoR r b F1 w1 e w2) : GoR r b F w e w2 := by
  obtain ⟨rfl, hc, F2, hs2, hp⟩ := h2
  refine ⟨rfl, h.trans hc (fun k hk => hs k hk), F2, fun k hk => ?_, hp⟩
  rcases hs2 k hk with h3 | h3
  · exact hs k h3
  · exact .inr (Nat.le_trans h.size h3)
/-- A byte that may stand at a place of a name. -/
def okI (j : Nat) (c : UInt8) : Bool := smallB c || (decide (j ≠ 0) && otherB c)
theorem isL_ok (l : Nm) : isL l = true ↔ 1 ≤ l.length ∧ l.length ≤ 24 ∧ ∀ j, j < l.length → okI j (l.getD j 0) = true := by
  cases l with
  | nil => simp [isL]
  | cons c r =>
    rw [isL_cons]
    simp only [Bool.and_eq_true, decide_eq_true_eq, List.length_cons, List.all_eq_true]
    constructor
    · rintro ⟨⟨h1, h2⟩, h3⟩
      refine ⟨by omega, by omega, fun j hj => ?_⟩
      cases j with
      | zero => unfold okI; simp [h2]
      | succ j =>
        unfold okI
        have hj' : j < r.length := by omega
        have := h3 _ (List.getElem_mem hj')
        simp [hj', this]
    · rintro ⟨h1, h2, h3⟩
      refine ⟨⟨by omega, ?_⟩, fun y hy => ?_⟩
      · have := h3 0 (by omega)
        unfold okI at this
        simpa using this
      · obtain ⟨j, hj, rfl⟩ := List.mem_iff_getElem.1 hy
        have := h3 (j + 1) (by omega)
        unfold okI at this
        simp [hj] at this
        rcases this with h | h
        · exact smallB_other _ h
        · exact h
theorem okI_iff (k : Nat) (x : UInt8) : okI k x = true ↔ (97 ≤ x.toNat ∧ x.toNat ≤ 122) ∨ (k ≠ 0 ∧ x.toNat = 95) ∨ (k ≠ 0 ∧ 48 ≤ x.toNat ∧ x.toNat ≤ 57) := by
  have h95 : (x == 95) = true ↔ x.toNat = 95 := by rw [beq_iff_eq, ← UInt8.toNat_inj]; rfl
  unfold okI otherB smallB
  simp only [Bool.or_eq_true, Bool.and_eq_true, decide_eq_true_eq, h95]
  constructor
  · intro h; omega
  · intro h; omega
theorem u8_lt (c : UInt8) : c.toNat < 256 := c.toNat_lt
set_option maxRecDepth 100000 in
set_option maxHeartbeats 1000000 in
theorem ris_calls (l : List UInt8) (w : World) (hl : l.length ≤ 1000000) : Calls Tryz.prog 64 #[strV l] w fun e w' => e = .returned (.bool (isL l)) ∧ w = w' := by
  have hsz : (⟨l.toArray⟩ : ByteArray).size = l.length := rfl
  by_cases h1 : l.length < 1
  · have hf : isL l = false := by cases h : isL l with | false => rfl | true => have := ((isL_ok l).1 h).1; omega
    have x1 : decide ((l.length : Int) < 1) = true := decide_eq_true (by omega)
    rw [hf]
    clear hf h1
    unfold strV
    go_enter Tryz.func64, Tryz.ntmps64
    go_wp2
    go_ret
    exact ⟨rfl, rfl⟩
  · by_cases h2 : 24 < l.length
    · have hf : isL l = false := by cases h : isL l with | false => rfl | true => have := ((isL_ok l).1 h).2.1; omega
      have x1 : decide ((l.length : Int) < 1) = false := decide_eq_false (by omega)
      have x2 : decide (24 < (l.length : Int)) = true := decide_eq_true (by omega)
      rw [hf]
      clear hf h1 h2
      unfold strV
      go_enter Tryz.func64, Tryz.ntmps64
      go_wp2
      go_ret
      exact ⟨rfl, rfl⟩
    · have x1 : decide ((l.length : Int) < 1) = false := decide_eq_false (by omega)
      have x2 : decide (24 < (l.length : Int)) = false := decide_eq_false (by omega)
      have H1 := hide h1
      have H2 := hide h2
      clear h1 h2
      unfold strV
      go_enter Tryz.func64, Tryz.ntmps64
      go_wp2
      go_loopw [3] (fun i wr => ∃ k : Nat, k ≤ l.length ∧ i = .int .i64 k ∧ Hid (∀ j, j < k → okI j (l.getD j 0) = true) ∧ w = wr) (fun i _ => l.length - (intOf i).toNat)
      case atStart => exact ⟨0, Nat.zero_le _, rfl, hide (fun j hj => by omega), rfl⟩
      case round =>
        obtain ⟨k, hk, rfl, HT, rfl⟩ := hrel
        by_cases hlt : k < l.length
        · have hq : ∀ h, (⟨l.toArray⟩ : ByteArray)[k]'h = l.getD k 0 := by
            intro h
            show l.toArray[k] = _
            simp [hlt]
          have hkk : (((k : Nat) : Int) == 0) = decide (k = 0) := by rw [Bool.eq_iff_iff]; simp
          have hlt' : decide ((k : Int) < (l.length : Int)) = true := by simpa using hlt
          have hiff := okI_iff k (l.getD k 0)
          have HNX : Hid (okI k (l.getD k 0) = true → ∀ j, j < k + 1 → okI j (l.getD j 0) = true) := hide (fun h j hj => by
            by_cases e : j = k
            · subst e; exact h
            · exact HT.out j (by omega))
          have HBD : Hid (okI k (l.getD k 0) = false → isL l = false) := hide (fun h => by
            cases hh : isL l with
            | false => rfl
            | true => have := ((isL_ok l).1 hh).2.2 k hlt; rw [h] at this; exact absurd this (by decide))
          cases hok : okI k (l.getD k 0) with
          | true =>
            have HN := hide (HNX.out hok)
            have hc := hiff.1 hok
            have hb := u8_lt (l.getD k 0)
            clear HNX HBD hiff hok
            generalize hx : l.getD k 0 = x at *
            clear hx
            rcases hc with ⟨a1, a2⟩ | ⟨a0, a1⟩ | ⟨a0, a1, a2⟩
            · have b1 : decide (97 ≤ x.toNat) = true := decide_eq_true a1
              have b2 : decide (x.toNat ≤ 122) = true := decide_eq_true a2
              have c2 : decide ((x.toNat : Int) ≤ 122) = true := decide_eq_true (by omega)
              go_wp2
              go_roundw
              case rel => exact ⟨k + 1, by omega, by go_num, HN, by trivial⟩
              case measure => simp [intOf]; omega
            · have b1 : decide (97 ≤ x.toNat) = false := decide_eq_false (by omega)
              have b3 : (((k : Nat) : Int) == 0) = false := by simp [a0]
              have b4 : (x.toNat != 95) = false := by simp [a1]
              go_wp2
              go_roundw
              case rel => exact ⟨k + 1, by omega, by go_num, HN, by trivial⟩
              case measure => simp [intOf]; omega
            · have b1 : decide (97 ≤ x.toNat) = false := decide_eq_false (by omega)
              have b3 : (((k : Nat) : Int) == 0) = false := by simp [a0]
              have b4 : (x.toNat != 95) = true := by simp; omega
              have b5 : decide (x.toNat < 48) = false := decide_eq_false (by omega)
              have c5 : decide ((x.toNat : Int) < 48) = false := decide_eq_false (by omega)
              have b6 : decide (57 < x.toNat) = false := decide_eq_false (by omega)
              have c6 : decide (57 < (x.toNat : Int)) = false := decide_eq_false (by omega)
              go_wp2
              go_roundw
              case rel => exact ⟨k + 1, by omega, by go_num, HN, by trivial⟩
              case measure => simp [intOf]; omega
          | false =>
            have HF := hide (HBD.out hok)
            have hc : ¬ _ := fun h => absurd (hiff.2 h) (by rw [hok]; decide)
            have hb := u8_lt (l.getD k 0)
            clear HNX HBD hiff hok
            generalize hx : l.getD k 0 = x at *
            clear hx
            have hc2 : (x.toNat < 97 ∧ k = 0) ∨ (x.toNat < 97 ∧ k ≠ 0 ∧ x.toNat ≠ 95 ∧ x.toNat < 48) ∨ (x.toNat < 97 ∧ k ≠ 0 ∧ x.toNat ≠ 95 ∧ 57 < x.toNat) ∨ (122 < x.toNat ∧ k = 0) ∨ (122 < x.toNat ∧ k ≠ 0) := by omega
            clear hc
            rcases hc2 with ⟨a1, a2⟩ | ⟨a1, a2, a3, a4⟩ | ⟨a1, a2, a3, a4⟩ | ⟨a1, a2⟩ | ⟨a1, a2⟩
            · subst a2
              have b1 : decide (97 ≤ x.toNat) = false := decide_eq_false (by omega)
              have c1 : decide (97 ≤ (x.toNat : Int)) = false := decide_eq_false (by omega)
              go_wp2
              go_ret
              exact ⟨ret_bool HF.out.symm, rfl⟩
            · have b1 : decide (97 ≤ x.toNat) = false := decide_eq_false (by omega)
              have b3 : (((k : Nat) : Int) == 0) = false := by simp [a2]
              have b4 : (x.toNat != 95) = true := by simp [a3]
              have b5 : decide (x.toNat < 48) = true := decide_eq_true a4
              have c5 : decide ((x.toNat : Int) < 48) = true := decide_eq_true (by omega)
              go_wp2
              go_ret
              exact ⟨ret_bool HF.out.symm, rfl⟩
            · have b1 : decide (97 ≤ x.toNat) = false := decide_eq_false (by omega)
              have b3 : (((k : Nat) : Int) == 0) = false := by simp [a2]
              have b4 : (x.toNat != 95) = true := by simp [a3]
              have b5 : decide (x.toNat < 48) = false := decide_eq_false (by omega)
              have c5 : decide ((x.toNat : Int) < 48) = false := decide_eq_false (by omega)
              have b6 : decide (57 < x.toNat) = true := decide_eq_true a4
              have c6 : decide (57 < (x.toNat : Int)) = true := decide_eq_true (by omega)
              go_wp2
              go_ret
              exact ⟨ret_bool HF.out.symm, rfl⟩
            · subst a2
              have b1 : decide (97 ≤ x.toNat) = true := decide_eq_true (by omega)
              have c1 : decide (97 ≤ (x.toNat : Int)) = true := decide_eq_true (by omega)
              have b2 : decide (x.toNat ≤ 122) = false := decide_eq_false (by omega)
              have c2 : decide ((x.toNat : Int) ≤ 122) = false := decide_eq_false (by omega)
              go_wp2
              go_ret
              exact ⟨ret_bool HF.out.symm, rfl⟩
            · have b1 : decide (97 ≤ x.toNat) = true := decide_eq_true (by omega)
              have b2 : decide (x.toNat ≤ 122) = false := decide_eq_false (by omega)
              have c2 : decide ((x.toNat : Int) ≤ 122) = false := decide_eq_false (by omega)
              have b3 : (((k : Nat) : Int) == 0) = false := by simp [a2]
              have b4 : (x.toNat != 95) = true := by simp; omega
              have b5 : decide (x.toNat < 48) = false := decide_eq_false (by omega)
              have c5 : decide ((x.toNat : Int) < 48) = false := decide_eq_false (by omega)
              have b6 : decide (57 < x.toNat) = true := decide_eq_true (by omega)
              have c6 : decide (57 < (x.toNat : Int)) = true := decide_eq_true (by omega)
              go_wp2
              go_ret
              exact ⟨ret_bool HF.out.symm, rfl⟩
        · have hk2 : k = l.length := by omega
          subst hk2
          go_wp2
          go_ret
          exact ⟨ret_bool (Eq.symm <| (isL_ok l).2 ⟨by have := H1.out; omega, by have := H2.out; omega, HT.out⟩), rfl⟩
end Go.Proofs.YtjfnpokebaagmaaGreatDoor
