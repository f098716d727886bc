/- Pick of package vote, and of the reference: what three agree in. -/
import Derived.Test.YtdliiamkoncneaaGreatDoorVote1
import Derived.Laws.IdiomStrings
import Derived.Laws.BytesArg
namespace Go.Proofs.YtdliiamkoncneaaGreatDoor
open Go.RowKit Go.Deep
set_option linter.unusedVariables false
/-- A slice reads as bytes. -/
def Bs (w : World) (v : Value) (s : ByteArray) : Prop := Sl w v (s.data.toList.map fun b => .int .u8 b.toNat)
theorem Bs.chg {w w' : World} {v : Value} {s : ByteArray} (h : Bs w v s) (hc : Chg w w' []) : Bs w' v s := Sl.keep h hc
theorem Bs.nil (w : World) : Bs w (.slice none 0 0) ⟨#[]⟩ := ⟨none, 0, rfl, Nat.le_refl _, fun h => absurd h (by simp)⟩
theorem Bs.of_ints {w : World} {v : Value} {z : List Int} (h : Sl w v (z.map (.int .u8))) (hz : ∀ n ∈ z, (Lit.int .u8 n).wf = true) : Bs w v (strOfNums z) := by
  have e : (strOfNums z).data.toList.map (fun b => Value.int .u8 b.toNat) = z.map (.int .u8) := by
    rw [strOfNums_data, List.map_map]
    refine List.map_congr_left fun n hn => ?_
    have hw := hz n hn
    simp only [Lit.wf, IntKind.min, IntKind.max, IntKind.signed, IntKind.bits] at hw
    simp at hw
    show Value.int .u8 ((UInt8.ofNat n.toNat).toNat : Int) = .int .u8 n
    congr 1
    rw [UInt8.toNat_ofNat']
    omega
  unfold Bs
  rw [e]
  exact h
theorem conv_str {w : World} {v : Value} {s : ByteArray} (h : Bs w v s) : (convert 22 9 v).run Tryz.prog w = .ok (.string s) w := by
  obtain ⟨A, c, hv, hc, hx⟩ := h
  have hl : (s.data.toList.map fun b => Value.int .u8 b.toNat).length = s.data.toList.length := by simp
  rw [hl] at hv hx
  by_cases h0 : 0 < s.data.toList.length
  · obtain ⟨b, off, rfl, hk⟩ := hx h0
    rw [hv]
    have := run_convert_bytes_back (P := Tryz.prog) w 22 9 5 ⟨b, off, none⟩ c s.data.toList Tryz.underlying22 Tryz.underlying5 Tryz.underlying9 (fun j hj => by
      rw [add_plain, hk j hj, List.getElem?_map, List.getElem?_eq_getElem hj]
      rfl)
    rw [this]
  · have hn : s.data.toList.length = 0 := by omega
    have hs : s = ⟨#[]⟩ := by
      apply ByteArray.ext
      have := List.length_eq_zero_iff.1 hn
      exact Array.toList_inj.mp this
    rw [hv, hn, hs]
    cases A with
    | none => exact run_convert_bytes_nil w 22 5 Tryz.underlying22 Tryz.underlying5 0 c 9 Tryz.underlying9
    | some a =>
      have := run_convert_bytes_back (P := Tryz.prog) w 22 9 5 a c [] Tryz.underlying22 Tryz.underlying5 Tryz.underlying9 (fun j hj => absurd hj (by simp))
      exact this
/-- What a string comes to as bytes. -/
theorem bs_row (w : World) (s : ByteArray) (cap : Nat) (q : Nat × Nat) (hc : s.data.size ≤ cap) : Bs (w.alloc (.cells (bytesRow s cap) 5 q)) (.slice (some ⟨w.heap.size, 0, none⟩) s.size cap) s := by
  have hl : (s.data.toList.map fun b => Value.int .u8 b.toNat).length = s.size := by rw [List.length_map]; rfl
  refine ⟨some ⟨w.heap.size, 0, none⟩, cap, by rw [hl], by rw [hl]; exact hc, fun _ => ⟨w.heap.size, 0, rfl, fun k hk => ?_⟩⟩
  rw [hl] at hk
  have hk' : k < s.data.size := hk
  have h1 := heap_alloc_new w (.cells (bytesRow s cap) 5 q)
  rw [Nat.zero_add, cell_of_row _ _ _ _ _ _ h1, bytesRow_at s cap k hk', List.getElem?_map, List.getElem?_eq_getElem (by simpa using hk')]
  simp
def pickE (ok : Bool) : Int := bif ok then 0 else 10
theorem chosen_none {A B C : ByteArray} {R : ByteArray × Int × Bool} (hR : chosenB A B C = R) (h : R.2.2 = false) : R.1 = ⟨#[]⟩ ∧ R.2.1 = -1 := by
  subst hR
  unfold chosenB at h ⊢
  generalize eqB B C = a at *
  generalize eqB B A = b at *
  generalize eqB A C = c at *
  generalize eqB A B = d at *
  cases a <;> cases b <;> cases c <;> cases d <;> simp at h ⊢
set_option maxRecDepth 100000 in
set_option maxHeartbeats 4000000 in
theorem pick_calls (v0 v1 v2 : Value) (A B C : ByteArray) (w : World) (h0 : Bs w v0 A) (h1 : Bs w v1 B) (h2 : Bs w v2 C) :
    Calls Tryz.prog 5 #[v0, v1, v2] w fun e w' => Chg w w' [] ∧ ∃ x, e = .returned (.tuple #[x, .int .i64 (chosenB A B C).2.1, .int .i64 (pickE (chosenB A B C).2.2)]) ∧ Bs w' x (chosenB A B C).1 := by
  have c0 := conv_str h0
  have c1 := conv_str h1
  have c2 := conv_str h2
  clear h0 h1 h2
  go_enter Tryz.func5, Tryz.ntmps5
  go_wp2_with fail
  refine (chosen_calls A B C _).mono ?_
  rintro e w1 ⟨rfl, hc⟩
  have HC := hide hc
  clear hc c0 c1 c2
  unfold chosenV
  generalize hR : chosenB A B C = R at *
  have hn := hide (fun h => chosen_none hR h)
  have HR := hide hR
  clear hR
  obtain ⟨S, n, ok⟩ := R
  cases ok with
  | false =>
    obtain ⟨e1, e2⟩ := hn.out rfl
    dsimp only at e1 e2
    subst e1 e2
    clear hn
    go_wp2
    go_ret3
    rw [HR.out]
    exact ⟨HC.out, _, rfl, Bs.nil _⟩
  | true =>
    clear hn
    have k := run_bytes_of_string (P := Tryz.prog) w1 9 22 5 S Tryz.underlying9 Tryz.underlying22 Tryz.underlying5
    have hcap : S.data.size ≤ grownCap w1 S.size 0 5 := grownCap_ge w1 S.size 0 5
    generalize grownCap w1 S.size 0 5 = cap at *
    have hb := hide (bs_row w1.drew S cap ((bytesRow S cap).size, (bytesRow S cap).size + 1) hcap)
    clear hcap
    go_wp2
    go_ret3
    rw [HR.out]
    exact ⟨HC.out.drew.alloc _, _, rfl, hb.out⟩
end Go.Proofs.YtdliiamkoncneaaGreatDoor
