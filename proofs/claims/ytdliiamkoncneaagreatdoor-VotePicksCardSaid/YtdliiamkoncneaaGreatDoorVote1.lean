/- chosen of package vote, at strings: who of three agree. -/
import Derived.Test.YtdliiamkoncneaaGreatDoorMem
import Derived.Test.YtdliiamkoncneaaGreatDoorShelfV
import Derived.OwnWalk
namespace Go.Proofs.YtdliiamkoncneaaGreatDoor
open Go.RowKit Go.Deep
set_option linter.unusedVariables false
/-- A copy of three strings. -/
theorem clone_calls (b : Nat) (A B C : ByteArray) (w : World) (hb : Blk w b 41 [.string A, .string B, .string C]) :
    Calls Tryz.prog 17 #[.slice (some ⟨b, 0, none⟩) 3 3] w fun e w1 => ∃ g cap cur, e = .returned (.slice (some ⟨g, 0, none⟩) 3 cap) ∧ Chg w w1 [] ∧ w.heap.size ≤ g ∧ 3 ≤ cap ∧ cap ≤ maxLen ∧ Blk w1 g 9 cur ∧ cur.take 3 = [.string A, .string B, .string C] := by
  have hc := Tryz.slices_Clone_string b 0 3 3 [A, B, C] w (by simp) (by decide) (fun j hj => by
    simp at hj
    rcases (by omega : j = 0 ∨ j = 1 ∨ j = 2) with rfl | rfl | rfl
    · exact hb.cell' (i := 0) rfl
    · exact hb.cell' (i := 1) rfl
    · exact hb.cell' (i := 2) rfl)
  refine hc.mono ?_
  rintro e w1 ⟨v', rfl, ⟨_, ho⟩, hne, hbel⟩
  rcases ho with ⟨rfl, h0⟩ | ⟨g, cap, cur, rfl, hg, hh, h1, h2, h3, h4⟩
  · cases h0
  · refine ⟨g, cap, cur.toList, rfl, Chg.of_below hbel, hg, h1, h2, ?_, by simpa using h4⟩
    unfold Blk
    rw [hh]
theorem chg_setCells {w : World} (g : Nat) : ∀ (vs : List Value) (o : Nat) (w' : World), Chg w w' [g] → Chg w (w'.setCells g o vs) [g]
  | [], _, _, h => h
  | v :: vs, o, w', h => chg_setCells g vs (o + 1) _ (h.setCell ⟨g, o, none⟩ v (.inl (by simp)))
/-- Three strings without one of them. -/
theorem delete_calls (g cap i : Nat) (S : Nat → ByteArray) (cur : List Value) (w : World) (hb : Blk w g 9 cur) (hcur : ∀ k, k < 3 → cur[k]? = some (.string (S k))) (hi : i < 3) (hcap : 3 ≤ cap) (hm : cap ≤ maxLen) :
    Calls Tryz.prog 16 #[.slice (some ⟨g, 0, none⟩) 3 cap, .int .i64 i, .int .i64 (i + 1)] w fun e w2 => e = .returned (.slice (some ⟨g, 0, none⟩) 2 cap) ∧ Chg w w2 [g] ∧
      w2.cell? ⟨g, 0, none⟩ = some (.string (S (if i = 0 then 1 else 0))) ∧ w2.cell? ⟨g, 1, none⟩ = some (.string (S (if i = 2 then 1 else 2))) := by
  have hd := Tryz.slices_Delete_string_cells g 0 3 cap i (i + 1) S w hcap (Nat.le_trans hm (by decide)) (by omega) (by omega)
    (fun k hk => by rw [Nat.zero_add]; exact hb.cell' (hcur k hk)) (fun k hk => hb.frozen _)
  refine hd.mono ?_
  rintro e w2 ⟨he, q, rfl⟩
  have hsome : ∀ k, k < 3 → ((w.drewN q).cell? ⟨g, 0 + k, none⟩).isSome = true := fun k hk => by
    have : w.cell? ⟨g, k, none⟩ = some (.string (S k)) := hb.cell' (hcur k hk)
    rw [Nat.zero_add]
    show (w.cell? ⟨g, k, none⟩).isSome = true
    rw [this]; rfl
  have hin : ∀ vs : List Value, vs.length = 3 → ∀ j, j < 3 → ((w.drewN q).setCells g 0 vs).cell? ⟨g, j, none⟩ = vs[j]? := fun vs hv j hj => by
    have := World.cell?_setCells_in g vs 0 (w.drewN q) (fun k hk => hsome k (by omega)) j (by omega)
    rw [Nat.zero_add] at this
    rw [this, List.getElem?_eq_getElem (by omega)]
  have hchg : ∀ vs : List Value, Chg w ((w.drewN q).setCells g 0 vs) [g] := fun vs => chg_setCells g vs 0 _ ((Chg.refl w [g]).drewN q)
  refine ⟨?_, hchg _, ?_⟩
  · rw [he, show 3 - (i + 1 - i) = 2 by omega]
  · rcases (by omega : i = 0 ∨ i = 1 ∨ i = 2) with rfl | rfl | rfl
    · exact ⟨(hin _ rfl 0 (by decide)).trans rfl, (hin _ rfl 1 (by decide)).trans rfl⟩
    · exact ⟨(hin _ rfl 0 (by decide)).trans rfl, (hin _ rfl 1 (by decide)).trans rfl⟩
    · exact ⟨(hin _ rfl 0 (by decide)).trans rfl, (hin _ rfl 1 (by decide)).trans rfl⟩
theorem take3 {cur : List Value} {a b c : Value} (h : cur.take 3 = [a, b, c]) : cur[0]? = some a ∧ cur[1]? = some b ∧ cur[2]? = some c := by
  match cur, h with
  | x :: y :: z :: l, h =>
    simp at h
    obtain ⟨rfl, rfl, rfl⟩ := h
    exact ⟨rfl, rfl, rfl⟩
  | [], h => simp at h
  | [_], h => simp at h
  | [_, _], h => simp at h
def nthB (A B C : ByteArray) : Nat → ByteArray
  | 0 => A
  | 1 => B
  | _ => C
theorem nth3 {cur : List Value} {A B C : ByteArray} (h : cur.take 3 = [.string A, .string B, .string C]) (k : Nat) (hk : k < 3) : cur[k]? = some (.string (nthB A B C k)) := by
  obtain ⟨h0, h1, h2⟩ := take3 h
  match k, hk with
  | 0, _ => exact h0
  | 1, _ => exact h1
  | 2, _ => exact h2
/-- Strings alike. -/
def eqB (A B : ByteArray) : Bool := A.toList == B.toList
theorem eqB_true {A B : ByteArray} : eqB A B = true ↔ A = B := Go.Lib.bytes_beq_iff A B
theorem eqB_false {A B : ByteArray} : eqB A B = false ↔ A ≠ B := Go.Lib.bytes_beq_false_iff A B
/-- Who of three strings is chosen, who is odd, whether any two agree. -/
def chosenB (A B C : ByteArray) : ByteArray × Int × Bool :=
  bif eqB B C then (bif eqB B A then (A, -1, true) else (B, 0, true)) else bif eqB A C then (A, 1, true) else bif eqB A B then (A, 2, true) else (⟨#[]⟩, -1, false)
def chosenV (A B C : ByteArray) : Value := .tuple #[.string (chosenB A B C).1, .int .i64 (chosenB A B C).2.1, .bool (chosenB A B C).2.2]
set_option maxRecDepth 100000 in
set_option maxHeartbeats 4000000 in
theorem chosen_calls (A B C : ByteArray) (w : World) : Calls Tryz.prog 11 #[.agg #[.string A, .string B, .string C]] w fun e w' => e = .returned (chosenV A B C) ∧ Chg w w' [] := by
  have k0 := Blk.new w 41 [.string A, .string B, .string C]
  have HC := hide ((Chg.refl w []).alloc (.cells #[.string A, .string B, .string C] 41))
  go_enter Tryz.func11, Tryz.ntmps11
  go_wp2_with fail
  generalize hw0 : (w.alloc (.cells #[.string A, .string B, .string C] 41)) = w0 at *
  go_loopw [8] (fun v wr => ∃ i : Nat, v = .int .i64 i ∧ i ≤ 3 ∧ Hid (Chg w wr []) ∧ Hid (Blk wr w.heap.size 41 [.string A, .string B, .string C]) ∧ Hid ((1 ≤ i → eqB B C = false) ∧ (2 ≤ i → eqB A C = false) ∧ (3 ≤ i → eqB A B = false))) (fun v _ => (3 - intOf v).toNat)
  case atStart => exact ⟨0, rfl, by omega, HC, hide k0, hide ⟨fun h => by omega, fun h => by omega, fun h => by omega⟩⟩
  case round =>
    obtain ⟨i, rfl, hi, hc, hb, hd⟩ := hrel
    clear k0 HC hw0 w0
    rcases (by omega : i = 0 ∨ i = 1 ∨ i = 2 ∨ i = 3) with rfl | rfl | rfl | rfl
    · have hd' := hd
      clear hd
      go_wp2_with fail
      refine (clone_calls _ A B C _ hb.out).mono ?_
      rintro e w1 ⟨g, cap, cur, rfl, hc1, hg, h3, hm, hk, ht⟩
      have hbw := hb.out.lt
      have hb1 := hide (hb.out.chg hc1 (by simp))
      have hc1' := hide (hc.out.trans hc1 (by simp))
      have hne : w.heap.size ≠ g := by omega
      have hgw : w.heap.size ≤ g := by omega
      have hK := hide hk
      have hT := hide ht
      clear hb hc hc1 hk ht hbw hg
      go_wp2_with fail
      refine (delete_calls g cap 0 (nthB A B C) cur _ hK.out (nth3 hT.out) (by decide) h3 hm).mono ?_
      rintro e w2 ⟨rfl, hc2, x0, x1⟩
      replace x0 : w2.cell? ⟨g, 0, none⟩ = some (.string B) := x0
      replace x1 : w2.cell? ⟨g, 1, none⟩ = some (.string C) := x1
      have hb2 := hide (hb1.out.chg hc2 (by simpa using hne))
      have y0 : w2.cell? ⟨w.heap.size, 0, none⟩ = some (.string A) := hb2.out.cell' (i := 0) rfl
      have HC2 := hide (hc1'.out.trans hc2 (D := []) (fun k hk => by simp at hk; subst hk; exact .inr hgw))
      clear hb1 hc1' hc2 hK hT h3 hm
      cases hXY : eqB B C with
      | true =>
        have k1 : (B.toList == C.toList) = true := hXY
        go_wp2_with fail
        go_quiet (fail)
        cases hBA : eqB B A with
        | true =>
          have k2 : (B.toList == A.toList) = true := hBA
          go_wp2_with fail
          go_quiet (fail)
          go_wp2
          go_ret3
          exact ⟨by unfold chosenV chosenB; rw [hXY, hBA]; rfl, by first | exact HC2.out | exact HC2.out.drewN _ | exact (HC2.out.drewN _).drewN _⟩
        | false =>
          have k2 : (B.toList == A.toList) = false := hBA
          go_wp2_with fail
          go_quiet (fail)
          go_wp2
          go_ret3
          exact ⟨by unfold chosenV chosenB; rw [hXY, hBA]; rfl, by first | exact HC2.out | exact HC2.out.drewN _ | exact (HC2.out.drewN _).drewN _⟩
      | false =>
        have k1 : (B.toList == C.toList) = false := hXY
        go_wp2_with fail
        go_quiet (fail)
        go_wp2
        go_roundw
        case rel => exact ⟨1, by go_num, by omega, HC2.out.drewN _, hb2.out.drewN _, hide ⟨fun _ => hXY, fun h => by omega, fun h => by omega⟩⟩
        case measure => simp [intOf]
    · have hd' := hd
      clear hd
      go_wp2_with fail
      refine (clone_calls _ A B C _ hb.out).mono ?_
      rintro e w1 ⟨g, cap, cur, rfl, hc1, hg, h3, hm, hk, ht⟩
      have hbw := hb.out.lt
      have hb1 := hide (hb.out.chg hc1 (by simp))
      have hc1' := hide (hc.out.trans hc1 (by simp))
      have hne : w.heap.size ≠ g := by omega
      have hgw : w.heap.size ≤ g := by omega
      have hK := hide hk
      have hT := hide ht
      clear hb hc hc1 hk ht hbw hg
      go_wp2_with fail
      refine (delete_calls g cap 1 (nthB A B C) cur _ hK.out (nth3 hT.out) (by decide) h3 hm).mono ?_
      rintro e w2 ⟨rfl, hc2, x0, x1⟩
      replace x0 : w2.cell? ⟨g, 0, none⟩ = some (.string A) := x0
      replace x1 : w2.cell? ⟨g, 1, none⟩ = some (.string C) := x1
      have hb2 := hide (hb1.out.chg hc2 (by simpa using hne))
      have y0 : w2.cell? ⟨w.heap.size, 1, none⟩ = some (.string B) := hb2.out.cell' (i := 1) rfl
      have HC2 := hide (hc1'.out.trans hc2 (D := []) (fun k hk => by simp at hk; subst hk; exact .inr hgw))
      clear hb1 hc1' hc2 hK hT h3 hm
      cases hXY : eqB A C with
      | true =>
        have k1 : (A.toList == C.toList) = true := hXY
        go_wp2_with fail
        go_quiet (fail)
        have hne2 : eqB A B = false := eqB_false.2 (fun h => by
          have h1 := eqB_false.1 (hd'.out.1 (by omega))
          have h2 := eqB_true.1 hXY
          exact h1 (h.symm.trans h2))
        have k2 : (A.toList == B.toList) = false := hne2
        go_wp2_with fail
        go_quiet (fail)
        go_wp2
        go_ret3
        exact ⟨by unfold chosenV chosenB; rw [hd'.out.1 (by omega), hXY]; rfl, by first | exact HC2.out | exact HC2.out.drewN _ | exact (HC2.out.drewN _).drewN _⟩
      | false =>
        have k1 : (A.toList == C.toList) = false := hXY
        go_wp2_with fail
        go_quiet (fail)
        go_wp2
        go_roundw
        case rel => exact ⟨2, by go_num, by omega, HC2.out.drewN _, hb2.out.drewN _, hide ⟨fun _ => hd'.out.1 (by omega), fun _ => hXY, fun h => by omega⟩⟩
        case measure => simp [intOf]
    · have hd' := hd
      clear hd
      go_wp2_with fail
      refine (clone_calls _ A B C _ hb.out).mono ?_
      rintro e w1 ⟨g, cap, cur, rfl, hc1, hg, h3, hm, hk, ht⟩
      have hbw := hb.out.lt
      have hb1 := hide (hb.out.chg hc1 (by simp))
      have hc1' := hide (hc.out.trans hc1 (by simp))
      have hne : w.heap.size ≠ g := by omega
      have hgw : w.heap.size ≤ g := by omega
      have hK := hide hk
      have hT := hide ht
      clear hb hc hc1 hk ht hbw hg
      go_wp2_with fail
      refine (delete_calls g cap 2 (nthB A B C) cur _ hK.out (nth3 hT.out) (by decide) h3 hm).mono ?_
      rintro e w2 ⟨rfl, hc2, x0, x1⟩
      replace x0 : w2.cell? ⟨g, 0, none⟩ = some (.string A) := x0
      replace x1 : w2.cell? ⟨g, 1, none⟩ = some (.string B) := x1
      have hb2 := hide (hb1.out.chg hc2 (by simpa using hne))
      have y0 : w2.cell? ⟨w.heap.size, 2, none⟩ = some (.string C) := hb2.out.cell' (i := 2) rfl
      have HC2 := hide (hc1'.out.trans hc2 (D := []) (fun k hk => by simp at hk; subst hk; exact .inr hgw))
      clear hb1 hc1' hc2 hK hT h3 hm
      cases hXY : eqB A B with
      | true =>
        have k1 : (A.toList == B.toList) = true := hXY
        go_wp2_with fail
        go_quiet (fail)
        have hne2 : eqB A C = false := hd'.out.2.1 (by omega)
        have k2 : (A.toList == C.toList) = false := hne2
        go_wp2_with fail
        go_quiet (fail)
        go_wp2
        go_ret3
        exact ⟨by unfold chosenV chosenB; rw [hd'.out.1 (by omega), hd'.out.2.1 (by omega), hXY]; rfl, by first | exact HC2.out | exact HC2.out.drewN _ | exact (HC2.out.drewN _).drewN _⟩
      | false =>
        have k1 : (A.toList == B.toList) = false := hXY
        go_wp2_with fail
        go_quiet (fail)
        go_wp2
        go_roundw
        case rel => exact ⟨3, by go_num, by omega, HC2.out.drewN _, hb2.out.drewN _, hide ⟨fun _ => hd'.out.1 (by omega), fun _ => hd'.out.2.1 (by omega), fun _ => hXY⟩⟩
        case measure => simp [intOf]
    · go_wp2
      go_ret3
      obtain ⟨d1, d2, d3⟩ := hd.out
      exact ⟨by unfold chosenV chosenB; rw [d1 (by omega), d2 (by omega), d3 (by omega)]; rfl, hc.out⟩
end Go.Proofs.YtdliiamkoncneaaGreatDoor
