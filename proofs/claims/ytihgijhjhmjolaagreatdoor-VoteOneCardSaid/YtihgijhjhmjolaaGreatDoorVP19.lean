/- Texts of this claim, side by side: Vote1, Vote2, Vote4, Vote5. -/
import Derived.Test.YtihgijhjhmjolaaGreatDoorVP1
import Derived.Test.YtihgijhjhmjolaaGreatDoorShelfV
import Derived.OwnWalk
import Derived.Test.YtihgijhjhmjolaaGreatDoorVP2
import Derived.Laws.IdiomStrings
import Derived.Laws.BytesArg
import Derived.Laws.StructEq
import Derived.Laws.Tables
/- chosen of package vote, at strings: who of three agree. -/
namespace Go.Proofs.YtihgijhjhmjolaaGreatDoor
open Go.RowKit Go.Deep
set_option linter.unusedVariables false
theorem clone_calls (b : Nat) (A B C : ByteArray) (w : World) (hb : Blk w b 135 [.string A, .string B, .string C]) :
 Calls Tryz.prog 139 #[.slice (some ⟨b, 0, none⟩) 3 3] w fun e w1 => ∃ g cap cur, e = .returned (.slice (some ⟨g, 0, none⟩) 3 cap) ∧ Chg w w1 [] ∧ w.heap.size ≤ g ∧ 3 ≤ cap ∧ cap ≤ maxLen ∧ Blk w1 g 9 cur ∧ cur.take 3 = [.string A, .string B, .string C] := by
 have hc := Tryz.slices_Clone_string b 0 3 3 [A, B, C] w (by simp) (by decide) (fun j hj => by
  simp at hj
  rcases (by omega : j = 0 ∨ j = 1 ∨ j = 2) with rfl | rfl | rfl
  · exact hb.cell' (i := 0) rfl
  · exact hb.cell' (i := 1) rfl
  · exact hb.cell' (i := 2) rfl)
 refine hc.mono ?_
 rintro e w1 ⟨v', rfl, ⟨_, ho⟩, hne, hbel⟩
 rcases ho with ⟨rfl, h0⟩ | ⟨g, cap, cur, rfl, hg, hh, h1, h2, h3, h4⟩
 · cases h0
 · refine ⟨g, cap, cur.toList, rfl, Chg.of_below hbel, hg, h1, h2, ?_, by simpa using h4⟩
   unfold Blk
   rw [hh]
theorem chg_setCells {w : World} (g : Nat) : ∀ (vs : List Value) (o : Nat) (w' : World), Chg w w' [g] → Chg w (w'.setCells g o vs) [g]
 | [], _, _, h => h
 | v :: vs, o, w', h => chg_setCells g vs (o + 1) _ (h.setCell ⟨g, o, none⟩ v (.inl (by simp)))
theorem delete_calls (g cap i : Nat) (S : Nat → ByteArray) (cur : List Value) (w : World) (hb : Blk w g 9 cur) (hcur : ∀ k, k < 3 → cur[k]? = some (.string (S k))) (hi : i < 3) (hcap : 3 ≤ cap) (hm : cap ≤ maxLen) :
 Calls Tryz.prog 138 #[.slice (some ⟨g, 0, none⟩) 3 cap, .int .i64 i, .int .i64 (i + 1)] w fun e w2 => e = .returned (.slice (some ⟨g, 0, none⟩) 2 cap) ∧ Chg w w2 [g] ∧
  w2.cell? ⟨g, 0, none⟩ = some (.string (S (if i = 0 then 1 else 0))) ∧ w2.cell? ⟨g, 1, none⟩ = some (.string (S (if i = 2 then 1 else 2))) := by
 have hd := Tryz.slices_Delete_string_cells g 0 3 cap i (i + 1) S w hcap (Nat.le_trans hm (by decide)) (by omega) (by omega)
  (fun k hk => by rw [Nat.zero_add]; exact hb.cell' (hcur k hk)) (fun k hk => hb.frozen _)
 refine hd.mono ?_
 rintro e w2 ⟨he, q, rfl⟩
 have hsome : ∀ k, k < 3 → ((w.drewN q).cell? ⟨g, 0 + k, none⟩).isSome = true := fun k hk => by
  have : w.cell? ⟨g, k, none⟩ = some (.string (S k)) := hb.cell' (hcur k hk)
  rw [Nat.zero_add]
  show (w.cell? ⟨g, k, none⟩).isSome = true
  rw [this]; rfl
 have hin : ∀ vs : List Value, vs.length = 3 → ∀ j, j < 3 → ((w.drewN q).setCells g 0 vs).cell? ⟨g, j, none⟩ = vs[j]? := fun vs hv j hj => by
  have := World.cell?_setCells_in g vs 0 (w.drewN q) (fun k hk => hsome k (by omega)) j (by omega)
  rw [Nat.zero_add] at this
  rw [this, List.getElem?_eq_getElem (by omega)]
 have hchg : ∀ vs : List Value, Chg w ((w.drewN q).setCells g 0 vs) [g] := fun vs => chg_setCells g vs 0 _ ((Chg.refl w [g]).drewN q)
 refine ⟨?_, hchg _, ?_⟩
 · rw [he, show 3 - (i + 1 - i) = 2 by omega]
 · rcases (by omega : i = 0 ∨ i = 1 ∨ i = 2) with rfl | rfl | rfl
   · exact ⟨(hin _ rfl 0 (by decide)).trans rfl, (hin _ rfl 1 (by decide)).trans rfl⟩
   · exact ⟨(hin _ rfl 0 (by decide)).trans rfl, (hin _ rfl 1 (by decide)).trans rfl⟩
   · exact ⟨(hin _ rfl 0 (by decide)).trans rfl, (hin _ rfl 1 (by decide)).trans rfl⟩
theorem take3 {cur : List Value} {a b c : Value} (h : cur.take 3 = [a, b, c]) : cur[0]? = some a ∧ cur[1]? = some b ∧ cur[2]? = some c := by
 match cur, h with
 | x :: y :: z :: l, h =>
  simp at h
  obtain ⟨rfl, rfl, rfl⟩ := h
  exact ⟨rfl, rfl, rfl⟩
 | [], h => simp at h
 | [_], h => simp at h
 | [_, _], h => simp at h
def nthB (A B C : ByteArray) : Nat → ByteArray
 | 0 => A
 | 1 => B
 | _ => C
theorem nth3 {cur : List Value} {A B C : ByteArray} (h : cur.take 3 = [.string A, .string B, .string C]) (k : Nat) (hk : k < 3) : cur[k]? = some (.string (nthB A B C k)) := by
 obtain ⟨h0, h1, h2⟩ := take3 h
 match k, hk with
 | 0, _ => exact h0
 | 1, _ => exact h1
 | 2, _ => exact h2
def eqB (A B : ByteArray) : Bool := A.toList == B.toList
theorem eqB_true {A B : ByteArray} : eqB A B = true ↔ A = B := Go.Lib.bytes_beq_iff A B
theorem eqB_false {A B : ByteArray} : eqB A B = false ↔ A ≠ B := Go.Lib.bytes_beq_false_iff A B
def chosenB (A B C : ByteArray) : ByteArray × Int × Bool :=
 bif eqB B C then (bif eqB B A then (A, -1, true) else (B, 0, true)) else bif eqB A C then (A, 1, true) else bif eqB A B then (A, 2, true) else (⟨#[]⟩, -1, false)
def chosenV (A B C : ByteArray) : Value := .tuple #[.string (chosenB A B C).1, .int .i64 (chosenB A B C).2.1, .bool (chosenB A B C).2.2]
set_option maxRecDepth 100000 in
set_option maxHeartbeats 4000000 in
theorem chosen_calls (A B C : ByteArray) (w : World) : Calls Tryz.prog 82 #[.agg #[.string A, .string B, .string C]] w fun e w' => e = .returned (chosenV A B C) ∧ Chg w w' [] := by
 have k0 := Blk.new w 135 [.string A, .string B, .string C]
 have HC := hide ((Chg.refl w []).alloc (.cells #[.string A, .string B, .string C] 135))
 go_enter Tryz.func82, Tryz.ntmps82
 go_wp2_with fail
 generalize hw0 : (w.alloc (.cells #[.string A, .string B, .string C] 135)) = w0 at *
 go_loopw [8] (fun v wr => ∃ i : Nat, v = .int .i64 i ∧ i ≤ 3 ∧ Hid (Chg w wr []) ∧ Hid (Blk wr w.heap.size 135 [.string A, .string B, .string C]) ∧ Hid ((1 ≤ i → eqB B C = false) ∧ (2 ≤ i → eqB A C = false) ∧ (3 ≤ i → eqB A B = false))) (fun v _ => (3 - intOf v).toNat)
 case atStart => exact ⟨0, rfl, by omega, HC, hide k0, hide ⟨fun h => by omega, fun h => by omega, fun h => by omega⟩⟩
 case round =>
  obtain ⟨i, rfl, hi, hc, hb, hd⟩ := hrel
  clear k0 HC hw0 w0
  rcases (by omega : i = 0 ∨ i = 1 ∨ i = 2 ∨ i = 3) with rfl | rfl | rfl | rfl
  · have hd' := hd
    clear hd
    go_wp2_with fail
    refine (clone_calls _ A B C _ hb.out).mono ?_
    rintro e w1 ⟨g, cap, cur, rfl, hc1, hg, h3, hm, hk, ht⟩
    have hbw := hb.out.lt
    have hb1 := hide (hb.out.chg hc1 (by simp))
    have hc1' := hide (hc.out.trans hc1 (by simp))
    have hne : w.heap.size ≠ g := by omega
    have hgw : w.heap.size ≤ g := by omega
    have hK := hide hk
    have hT := hide ht
    clear hb hc hc1 hk ht hbw hg
    go_wp2_with fail
    refine (delete_calls g cap 0 (nthB A B C) cur _ hK.out (nth3 hT.out) (by decide) h3 hm).mono ?_
    rintro e w2 ⟨rfl, hc2, x0, x1⟩
    replace x0 : w2.cell? ⟨g, 0, none⟩ = some (.string B) := x0
    replace x1 : w2.cell? ⟨g, 1, none⟩ = some (.string C) := x1
    have hb2 := hide (hb1.out.chg hc2 (by simpa using hne))
    have y0 : w2.cell? ⟨w.heap.size, 0, none⟩ = some (.string A) := hb2.out.cell' (i := 0) rfl
    have HC2 := hide (hc1'.out.trans hc2 (D := []) (fun k hk => by simp at hk; subst hk; exact .inr hgw))
    clear hb1 hc1' hc2 hK hT h3 hm
    cases hXY : eqB B C with
    | true =>
     have k1 : (B.toList == C.toList) = true := hXY
     go_wp2_with fail
     go_quiet (fail)
     cases hBA : eqB B A with
     | true =>
      have k2 : (B.toList == A.toList) = true := hBA
      go_wp2_with fail
      go_quiet (fail)
      go_wp2
      go_ret3
      exact ⟨by unfold chosenV chosenB; rw [hXY, hBA]; rfl, by first | exact HC2.out | exact HC2.out.drewN _ | exact (HC2.out.drewN _).drewN _⟩
     | false =>
      have k2 : (B.toList == A.toList) = false := hBA
      go_wp2_with fail
      go_quiet (fail)
      go_wp2
      go_ret3
      exact ⟨by unfold chosenV chosenB; rw [hXY, hBA]; rfl, by first | exact HC2.out | exact HC2.out.drewN _ | exact (HC2.out.drewN _).drewN _⟩
    | false =>
     have k1 : (B.toList == C.toList) = false := hXY
     go_wp2_with fail
     go_quiet (fail)
     go_wp2
     go_roundw
     case rel => exact ⟨1, by go_num, by omega, HC2.out.drewN _, hb2.out.drewN _, hide ⟨fun _ => hXY, fun h => by omega, fun h => by omega⟩⟩
     case measure => simp [intOf]
  · have hd' := hd
    clear hd
    go_wp2_with fail
    refine (clone_calls _ A B C _ hb.out).mono ?_
    rintro e w1 ⟨g, cap, cur, rfl, hc1, hg, h3, hm, hk, ht⟩
    have hbw := hb.out.lt
    have hb1 := hide (hb.out.chg hc1 (by simp))
    have hc1' := hide (hc.out.trans hc1 (by simp))
    have hne : w.heap.size ≠ g := by omega
    have hgw : w.heap.size ≤ g := by omega
    have hK := hide hk
    have hT := hide ht
    clear hb hc hc1 hk ht hbw hg
    go_wp2_with fail
    refine (delete_calls g cap 1 (nthB A B C) cur _ hK.out (nth3 hT.out) (by decide) h3 hm).mono ?_
    rintro e w2 ⟨rfl, hc2, x0, x1⟩
    replace x0 : w2.cell? ⟨g, 0, none⟩ = some (.string A) := x0
    replace x1 : w2.cell? ⟨g, 1, none⟩ = some (.string C) := x1
    have hb2 := hide (hb1.out.chg hc2 (by simpa using hne))
    have y0 : w2.cell? ⟨w.heap.size, 1, none⟩ = some (.string B) := hb2.out.cell' (i := 1) rfl
    have HC2 := hide (hc1'.out.trans hc2 (D := []) (fun k hk => by simp at hk; subst hk; exact .inr hgw))
    clear hb1 hc1' hc2 hK hT h3 hm
    cases hXY : eqB A C with
    | true =>
     have k1 : (A.toList == C.toList) = true := hXY
     go_wp2_with fail
     go_quiet (fail)
     have hne2 : eqB A B = false := eqB_false.2 (fun h => by
      have h1 := eqB_false.1 (hd'.out.1 (by omega))
      have h2 := eqB_true.1 hXY
      exact h1 (h.symm.trans h2))
     have k2 : (A.toList == B.toList) = false := hne2
     go_wp2_with fail
     go_quiet (fail)
     go_wp2
     go_ret3
     exact ⟨by unfold chosenV chosenB; rw [hd'.out.1 (by omega), hXY]; rfl, by first | exact HC2.out | exact HC2.out.drewN _ | exact (HC2.out.drewN _).drewN _⟩
    | false =>
     have k1 : (A.toList == C.toList) = false := hXY
     go_wp2_with fail
     go_quiet (fail)
     go_wp2
     go_roundw
     case rel => exact ⟨2, by go_num, by omega, HC2.out.drewN _, hb2.out.drewN _, hide ⟨fun _ => hd'.out.1 (by omega), fun _ => hXY, fun h => by omega⟩⟩
     case measure => simp [intOf]
  · have hd' := hd
    clear hd
    go_wp2_with fail
    refine (clone_calls _ A B C _ hb.out).mono ?_
    rintro e w1 ⟨g, cap, cur, rfl, hc1, hg, h3, hm, hk, ht⟩
    have hbw := hb.out.lt
    have hb1 := hide (hb.out.chg hc1 (by simp))
    have hc1' := hide (hc.out.trans hc1 (by simp))
    have hne : w.heap.size ≠ g := by omega
    have hgw : w.heap.size ≤ g := by omega
    have hK := hide hk
    have hT := hide ht
    clear hb hc hc1 hk ht hbw hg
    go_wp2_with fail
    refine (delete_calls g cap 2 (nthB A B C) cur _ hK.out (nth3 hT.out) (by decide) h3 hm).mono ?_
    rintro e w2 ⟨rfl, hc2, x0, x1⟩
    replace x0 : w2.cell? ⟨g, 0, none⟩ = some (.string A) := x0
    replace x1 : w2.cell? ⟨g, 1, none⟩ = some (.string B) := x1
    have hb2 := hide (hb1.out.chg hc2 (by simpa using hne))
    have y0 : w2.cell? ⟨w.heap.size, 2, none⟩ = some (.string C) := hb2.out.cell' (i := 2) rfl
    have HC2 := hide (hc1'.out.trans hc2 (D := []) (fun k hk => by simp at hk; subst hk; exact .inr hgw))
    clear hb1 hc1' hc2 hK hT h3 hm
    cases hXY : eqB A B with
    | true =>
     have k1 : (A.toList == B.toList) = true := hXY
     go_wp2_with fail
     go_quiet (fail)
     have hne2 : eqB A C = false := hd'.out.2.1 (by omega)
     have k2 : (A.toList == C.toList) = false := hne2
     go_wp2_with fail
     go_quiet (fail)
     go_wp2
     go_ret3
     exact ⟨by unfold chosenV chosenB; rw [hd'.out.1 (by omega), hd'.out.2.1 (by omega), hXY]; rfl, by first | exact HC2.out | exact HC2.out.drewN _ | exact (HC2.out.drewN _).drewN _⟩
    | false =>
     have k1 : (A.toList == B.toList) = false := hXY
     go_wp2_with fail
     go_quiet (fail)
     go_wp2
     go_roundw
     case rel => exact ⟨3, by go_num, by omega, HC2.out.drewN _, hb2.out.drewN _, hide ⟨fun _ => hd'.out.1 (by omega), fun _ => hd'.out.2.1 (by omega), fun _ => hXY⟩⟩
     case measure => simp [intOf]
  · go_wp2
    go_ret3
    obtain ⟨d1, d2, d3⟩ := hd.out
    exact ⟨by unfold chosenV chosenB; rw [d1 (by omega), d2 (by omega), d3 (by omega)]; rfl, hc.out⟩
end Go.Proofs.YtihgijhjhmjolaaGreatDoor

/- Pick of package vote, and of the reference: what three agree in. -/
namespace Go.Proofs.YtihgijhjhmjolaaGreatDoor
open Go.RowKit Go.Deep
set_option linter.unusedVariables false
theorem bs_row (w : World) (s : ByteArray) (cap : Nat) (q : Nat × Nat) (hc : s.data.size ≤ cap) : Bs (w.alloc (.cells (bytesRow s cap) 5 q)) (.slice (some ⟨w.heap.size, 0, none⟩) s.size cap) s := by
 have hl : (s.data.toList.map fun b => Value.int .u8 b.toNat).length = s.size := by rw [List.length_map]; rfl
 refine ⟨some ⟨w.heap.size, 0, none⟩, cap, by rw [hl], by rw [hl]; exact hc, fun _ => ⟨w.heap.size, 0, rfl, fun k hk => ?_⟩⟩
 rw [hl] at hk
 have hk' : k < s.data.size := hk
 have h1 := heap_alloc_new w (.cells (bytesRow s cap) 5 q)
 rw [Nat.zero_add, cell_of_row _ _ _ _ _ _ h1, bytesRow_at s cap k hk', List.getElem?_map, List.getElem?_eq_getElem (by simpa using hk')]
 simp
def pickE (ok : Bool) : Int := bif ok then 0 else 10
theorem chosen_none {A B C : ByteArray} {R : ByteArray × Int × Bool} (hR : chosenB A B C = R) (h : R.2.2 = false) : R.1 = ⟨#[]⟩ ∧ R.2.1 = -1 := by
 subst hR
 unfold chosenB at h ⊢
 generalize eqB B C = a at *
 generalize eqB B A = b at *
 generalize eqB A C = c at *
 generalize eqB A B = d at *
 cases a <;> cases b <;> cases c <;> cases d <;> simp at h ⊢
set_option maxRecDepth 100000 in
set_option maxHeartbeats 4000000 in
theorem pick_calls (v0 v1 v2 : Value) (A B C : ByteArray) (w : World) (h0 : Bs w v0 A) (h1 : Bs w v1 B) (h2 : Bs w v2 C) :
 Calls Tryz.prog 42 #[v0, v1, v2] w fun e w' => Chg w w' [] ∧ ∃ x, e = .returned (.tuple #[x, .int .i64 (chosenB A B C).2.1, .int .i64 (pickE (chosenB A B C).2.2)]) ∧ Bs w' x (chosenB A B C).1 := by
 have c0 := conv_str h0
 have c1 := conv_str h1
 have c2 := conv_str h2
 clear h0 h1 h2
 go_enter Tryz.func42, Tryz.ntmps42
 go_wp2_with fail
 refine (chosen_calls A B C _).mono ?_
 rintro e w1 ⟨rfl, hc⟩
 have HC := hide hc
 clear hc c0 c1 c2
 unfold chosenV
 generalize hR : chosenB A B C = R at *
 have hn := hide (fun h => chosen_none hR h)
 have HR := hide hR
 clear hR
 obtain ⟨S, n, ok⟩ := R
 cases ok with
 | false =>
  obtain ⟨e1, e2⟩ := hn.out rfl
  dsimp only at e1 e2
  subst e1 e2
  clear hn
  go_wp2
  go_ret3
  rw [HR.out]
  exact ⟨HC.out, _, rfl, Bs.nil _⟩
 | true =>
  clear hn
  have k := run_bytes_of_string (P := Tryz.prog) w1 9 26 5 S Tryz.underlying9 Tryz.underlying26 Tryz.underlying5
  have hcap : S.data.size ≤ grownCap w1 S.size 0 5 := grownCap_ge w1 S.size 0 5
  generalize grownCap w1 S.size 0 5 = cap at *
  have hb := hide (bs_row w1.drew S cap ((bytesRow S cap).size, (bytesRow S cap).size + 1) hcap)
  clear hcap
  go_wp2
  go_ret3
  rw [HR.out]
  exact ⟨HC.out.drew.alloc _, _, rfl, hb.out⟩
end Go.Proofs.YtihgijhjhmjolaaGreatDoor

/- Who is nobody: a panel that is none, and one that New has not made. -/
namespace Go.Proofs.YtihgijhjhmjolaaGreatDoor
open Go.RowKit Go.Deep
set_option linter.unusedVariables false
def noF : Value := .tuple #[.slice none 0 0, .int .i64 (-1), .int .i64 1]
set_option maxRecDepth 100000 in
theorem feed_nil (w : World) : Calls Tryz.prog 24 #[.pointer none, .slice none 0 0, .slice none 0 0, .slice none 0 0] w fun e w' => e = .returned noF ∧ w = w' := by
 go_enter Tryz.func24, Tryz.ntmps24
 go_wp2
 go_ret3
 exact ⟨rfl, rfl⟩
set_option maxRecDepth 100000 in
theorem feed_bad (g : Nat) (w : World) (h : w.cell? ⟨g, 10, none⟩ = some (.bool false)) : Calls Tryz.prog 24 #[.pointer (some ⟨g, 0, none⟩), .slice none 0 0, .slice none 0 0, .slice none 0 0] w fun e w' => e = .returned noF ∧ w = w' := by
 go_enter Tryz.func24, Tryz.ntmps24
 go_wp2
 go_ret3
 exact ⟨rfl, rfl⟩
set_option maxRecDepth 100000 in
theorem reset_nil (w : World) : Calls Tryz.prog 22 #[.pointer none] w fun e w' => e = .returned (.int .i64 1) ∧ w = w' := by
 go_enter Tryz.func22, Tryz.ntmps22
 go_wp2
 go_ret
 exact ⟨rfl, rfl⟩
set_option maxRecDepth 100000 in
theorem reset_bad (g : Nat) (w : World) (h : w.cell? ⟨g, 10, none⟩ = some (.bool false)) : Calls Tryz.prog 22 #[.pointer (some ⟨g, 0, none⟩)] w fun e w' => e = .returned (.int .i64 1) ∧ w = w' := by
 go_enter Tryz.func22, Tryz.ntmps22
 go_wp2
 go_ret
 exact ⟨rfl, rfl⟩
def od0 : Value := .agg #[.int .i64 0, .int .i64 0, .int .i64 0]
set_option maxRecDepth 100000 in
set_option maxHeartbeats 1000000 in
theorem state_nil (w : World) : Calls Tryz.prog 23 #[.pointer none] w fun e w' => e = .returned (.agg #[.int .i32 0, .int .i32 0, .int .i32 0, .int .i32 0, .int .i64 0, .int .i64 0, .int .i64 0]) ∧ Chg w w' [] := by
 have k0 := Blk.new w 25 [.int .i32 0, .int .i32 0, .int .i32 0, .int .i32 0, .int .i64 0, .int .i64 0, .int .i64 0]
 have z0 := k0.cell' (i := 0) rfl
 have f0 := k0.frozen 0
 have z1 := k0.cell' (i := 1) rfl
 have f1 := k0.frozen 1
 have z2 := k0.cell' (i := 2) rfl
 have f2 := k0.frozen 2
 have z3 := k0.cell' (i := 3) rfl
 have f3 := k0.frozen 3
 have z4 := k0.cell' (i := 4) rfl
 have f4 := k0.frozen 4
 have z5 := k0.cell' (i := 5) rfl
 have f5 := k0.frozen 5
 have z6 := k0.cell' (i := 6) rfl
 have f6 := k0.frozen 6
 clear k0
 go_enter Tryz.func23, Tryz.ntmps23
 go_wp2
 refine bodyPost_ret (v := (.agg #[.int .i32 0, .int .i32 0, .int .i32 0, .int .i32 0, .int .i64 0, .int .i64 0, .int .i64 0])) (by simp [results, Tryz.f23, go_sem]) rfl ⟨rfl, (Chg.refl w []).alloc _⟩
set_option maxRecDepth 100000 in
set_option maxHeartbeats 1000000 in
theorem odd_bad (g : Nat) (w : World) (h7 : w.cell? ⟨g, 7, none⟩ = some (.int .i64 0)) (h8 : w.cell? ⟨g, 8, none⟩ = some (.int .i64 0)) (h9 : w.cell? ⟨g, 9, none⟩ = some (.int .i64 0)) : Calls Tryz.prog 26 #[.pointer (some ⟨g, 0, none⟩)] w fun e w' => e = .returned (.agg #[.int .i64 0, .int .i64 0, .int .i64 0]) ∧ Chg w w' [] := by
 have k0 := Blk.new w 50 [.int .i64 0, .int .i64 0, .int .i64 0]
 have z0 := k0.cell' (i := 0) rfl
 have f0 := k0.frozen 0
 have z1 := k0.cell' (i := 1) rfl
 have f1 := k0.frozen 1
 have z2 := k0.cell' (i := 2) rfl
 have f2 := k0.frozen 2
 have y7 := ((Chg.refl w []).alloc (.cells #[.int .i64 0, .int .i64 0, .int .i64 0] 50)).cell h7 (by simp)
 have y8 := ((Chg.refl w []).alloc (.cells #[.int .i64 0, .int .i64 0, .int .i64 0] 50)).cell h8 (by simp)
 have y9 := ((Chg.refl w []).alloc (.cells #[.int .i64 0, .int .i64 0, .int .i64 0] 50)).cell h9 (by simp)
 clear k0
 go_enter Tryz.func26, Tryz.ntmps26
 go_wp2
 refine bodyPost_ret (v := (.agg #[.int .i64 0, .int .i64 0, .int .i64 0])) (by simp [results, Tryz.f26, go_sem]) rfl ⟨rfl, (Chg.refl w []).alloc _⟩
theorem eq_q0 (w : World) : (Op.equalIn 9999 23 (.agg #[.int .i32 0, .int .i32 0, .int .i32 0, .int .i32 0]) (.agg #[.int .i32 0, .int .i32 0, .int .i32 0, .int .i32 0])).run Tryz.prog w = .ok true w := by kernel_rfl
theorem eq_od0 (w : World) : (Op.equalIn 10000 50 od0 od0).run Tryz.prog w = .ok true w := by kernel_rfl
end Go.Proofs.YtihgijhjhmjolaaGreatDoor

/- The example of layer 43. -/
namespace Go.Proofs.YtihgijhjhmjolaaGreatDoor
open Go.RowKit Go.Deep
set_option linter.unusedVariables false
theorem bs1 {w : World} {g : Nat} (x : UInt8) (h : Blk w g 5 [.int .u8 x.toNat]) : Bs w (.slice (some ⟨g, 0, none⟩) 1 1) ⟨#[x]⟩ := Sl.blk (n := 1) (c := 1) h (by simp) (by omega)
def S1 : ByteArray := ⟨#[1]⟩
def S2 : ByteArray := ⟨#[2]⟩
def SE : ByteArray := ⟨#[]⟩
theorem ch1 : chosenB S1 S2 S1 = (S1, 1, true) := by
 unfold chosenB
 rw [show eqB S2 S1 = false from eqB_false.2 (by decide), show eqB S1 S1 = true from eqB_true.2 rfl]; rfl
theorem ch2 : chosenB S1 S2 SE = (SE, -1, false) := by
 unfold chosenB
 rw [show eqB S2 SE = false from eqB_false.2 (by decide), show eqB S1 SE = false from eqB_false.2 (by decide), show eqB S1 S2 = false from eqB_false.2 (by decide)]; rfl
set_option maxRecDepth 100000 in
set_option maxHeartbeats 8000000 in
theorem awake43_calls (w : World) : Calls Tryz.prog 20 #[] w fun e w' => e = .returned (.bool true) ∧ Chg w w' [] := by
 have k0 := Blk.new w 5 [.int .u8 1]
 have k1 := Blk.new (w.alloc (.cells #[.int .u8 1] 5)) 5 [.int .u8 2]
 have k2 := Blk.new ((w.alloc (.cells #[.int .u8 1] 5)).alloc (.cells #[.int .u8 2] 5)) 5 [.int .u8 1]
 have m0 := bs1 1 ((k0.alloc (.cells #[.int .u8 2] 5)).alloc (.cells #[.int .u8 1] 5))
 have m1 := bs1 2 (k1.alloc (.cells #[.int .u8 1] 5))
 have m2 := bs1 1 k2
 simp only [size_alloc] at m1 m2
 have HC := hide ((((Chg.refl w []).alloc (.cells #[.int .u8 1] 5)).alloc (.cells #[.int .u8 2] 5)).alloc (.cells #[.int .u8 1] 5))
 clear k0 k1 k2
 have M0 := hide m0
 have M1 := hide m1
 have M2 := hide m2
 clear m0 m1 m2
 go_enter Tryz.func20, Tryz.ntmps20
 go_wp2_with fail
 refine (pick_calls _ _ _ S1 S2 S1 _ M0.out M1.out M2.out).mono ?_
 rw [ch1]
 rintro e w1 ⟨hc, x, rfl, hx⟩
 have HC1 := hide (HC.out.trans hc (D := []) (by simp))
 have HX := hide hx
 clear HC M0 M1 M2 hc hx
 have k0 := Blk.new w1 5 [.int .u8 1]
 have k1 := Blk.new (w1.alloc (.cells #[.int .u8 1] 5)) 5 [.int .u8 2]
 have m0 := bs1 1 (k0.alloc (.cells #[.int .u8 2] 5))
 have m1 := bs1 2 k1
 simp only [size_alloc] at m1
 have M0 := hide m0
 have M1 := hide m1
 have HA := hide (((Chg.refl w1 []).alloc (.cells #[.int .u8 1] 5)).alloc (.cells #[.int .u8 2] 5))
 clear k0 k1 m0 m1
 go_wp2_with fail
 refine (pick_calls _ _ _ S1 S2 SE _ M0.out M1.out (Bs.nil _)).mono ?_
 rw [ch2]
 rintro e w2 ⟨hc, x2, rfl, hx2⟩
 have h12 := HA.out.trans hc (D := []) (by simp)
 have HC2 := hide (HC1.out.trans h12 (D := []) (by simp))
 have HX2 := hide (HX.out.chg h12)
 clear HC1 HX HA M0 M1 hc hx2 h12
 have kb := Blk.new w2 82 [.int .i32 0, .int .i32 0, .int .i32 0, .int .i32 0, .int .i64 0, .int .i64 0, .int .i64 0, .int .i64 0, .int .i64 0, .int .i64 0, .bool false]
 have HK := hide kb
 have HB := hide ((Chg.refl w2 []).alloc (.cells #[.int .i32 0, .int .i32 0, .int .i32 0, .int .i32 0, .int .i64 0, .int .i64 0, .int .i64 0, .int .i64 0, .int .i64 0, .int .i64 0, .bool false] 82))
 clear kb
 go_wp2_with fail
 refine (feed_nil _).mono ?_
 rintro e w3 ⟨rfl, rfl⟩
 unfold noF
 go_wp2_with fail
 generalize hw3 : (w2.alloc (.cells #[.int .i32 0, .int .i32 0, .int .i32 0, .int .i32 0, .int .i64 0, .int .i64 0, .int .i64 0, .int .i64 0, .int .i64 0, .int .i64 0, .bool false] 82)) = w3 at *
 clear hw3
 refine (feed_bad _ _ (HK.out.cell' (i := 10) rfl)).mono ?_
 rintro e w4 ⟨rfl, rfl⟩
 unfold noF
 go_wp2_with fail
 refine (reset_nil _).mono ?_
 rintro e w4 ⟨rfl, rfl⟩
 go_wp2_with fail
 refine (reset_bad _ _ (HK.out.cell' (i := 10) rfl)).mono ?_
 rintro e w4 ⟨rfl, rfl⟩
 have cx := conv_str (HX2.out.chg HB.out)
 have kS : S1.toList = [1] := by rw [ByteArray.toList_eq]; rfl
 have kE1 : pickE true = 0 := rfl
 have kE0 : pickE false = 10 := rfl
 go_wp2_with fail
 refine (state_nil _).mono ?_
 rintro e w5 ⟨rfl, hc5⟩
 have hE := eq_q0 w5
 have hG1 : Tryz.prog.eqGuardType Tryz.prog.depth 25 = false := by kernel_rfl
 have hG2 : Tryz.prog.eqGuardType Tryz.prog.depth 50 = false := by kernel_rfl
 have HK5 := hide (HK.out.chg hc5 (by simp))
 have HB5 := hide (HB.out.trans hc5 (D := []) (by simp))
 clear hc5 HK HB cx
 go_wp2_with fail
 refine (odd_bad _ _ (HK5.out.cell' (i := 7) rfl) (HK5.out.cell' (i := 8) rfl) (HK5.out.cell' (i := 9) rfl)).mono ?_
 rintro e w6 ⟨rfl, hc6⟩
 have hO := eq_od0 w6
 unfold od0 at hO
 go_wp2
 go_ret
 exact ⟨rfl, HC2.out.trans (HB5.out.trans hc6 (D := []) (by simp)) (D := []) (by simp)⟩
end Go.Proofs.YtihgijhjhmjolaaGreatDoor
