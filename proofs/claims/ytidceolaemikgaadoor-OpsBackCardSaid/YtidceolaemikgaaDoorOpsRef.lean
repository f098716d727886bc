/- The reference of layer 6: In, names, Name, Find, Shape, Reckons. And the plain functions of package ops. -/
import Derived.Test.YtidceolaemikgaaDoorOpsName
namespace Go.Proofs.YtidceolaemikgaaDoor
open Go.RowKit Go.Deep Go.Shelf
set_option linter.unusedVariables false

def i64s (l : List Int) : List Value := l.map (Value.int .i64)
theorem i64s_at (l : List Int) (k : Nat) (h : k < l.length) : (i64s l)[k]? = some (.int .i64 (l.getD k 0)) := by simp [i64s, h]

theorem not_in_take {n : Int} {l : List Int} {k : Nat} (h : n ∉ l.take k) (hk : k < l.length) (hne : ¬ l.getD k 0 = n) : n ∉ l.take (k + 1) := by
  rw [List.take_add_one, List.getElem?_eq_getElem hk]
  simp only [List.mem_append, not_or]
  refine ⟨h, ?_⟩
  simp [List.getD_eq_getElem?_getD, List.getElem?_eq_getElem hk] at hne
  simp; exact fun e => hne e.symm
theorem in_of_at {n : Int} {l : List Int} {k : Nat} (hk : k < l.length) (h : l.getD k 0 = n) : n ∈ l := by
  simp [List.getD_eq_getElem?_getD, List.getElem?_eq_getElem hk] at h
  exact h ▸ List.getElem_mem hk

set_option maxHeartbeats 400000 in
theorem in_any (A : Option Addr) (c : Nat) (n : Int) (l : List Int) (w : World) (hs : Sl w (.slice A l.length c) (i64s l)) (hn : l.length ≤ 3000) :
    Calls Tryd.prog 30 #[.int .i64 n, .slice A l.length c] w fun e w' => e = .returned (.bool (decide (n ∈ l))) ∧ w = w' := by
  have HS := hide hs
  clear hs
  go_enter Tryd.func30, Tryd.ntmps30
  go_wp2
  go_loopw [5] (fun i wr => ∃ k : Nat, k ≤ l.length ∧ i = .int .i64 k ∧ Hid (n ∉ l.take k) ∧ wr = w) (fun i _ => l.length - (intOf i).toNat)
  case atStart => exact ⟨0, Nat.zero_le _, rfl, hide (by simp), rfl⟩
  case round =>
    obtain ⟨k, hk, rfl, HT, rfl⟩ := hrel
    by_cases hlt : k < l.length
    · obtain ⟨b, off, rfl, hca, _⟩ := HS.out.at_ (i64s_at l k hlt)
      by_cases he : l.getD k 0 = n
      · have HE := hide (in_of_at hlt he)
        rw [he] at hca
        have hx : (n == n) = true := by simp
        clear he
        go_wp2
        go_ret
        exact ⟨by rw [decide_eq_true HE.out]; rfl, rfl⟩
      · have HE := hide (not_in_take HT.out hlt he)
        have hx : (l.getD k 0 == n) = false := by simpa using he
        clear he
        generalize l.getD k 0 = x at *
        go_wp2
        go_roundw
        case rel => exact ⟨k + 1, by omega, by go_num, HE, by trivial⟩
        case measure => simp [intOf]; omega
    · have hk : k = l.length := by omega
      subst hk
      go_wp2
      go_ret
      exact ⟨by rw [decide_eq_false (by simpa using HT.out)]; rfl, rfl⟩

set_option maxRecDepth 100000 in
set_option maxHeartbeats 1000000 in
theorem names_calls (w : World) : Calls Tryd.prog 28 #[] w fun e w' => e = .returned (.slice (some ⟨w.heap.size, 0, none⟩) 43 43) ∧ w' = w.alloc (.cells (nmL.map fun l => Value.string ⟨l.toArray⟩).toArray 9) := by
  go_enter Tryd.func28, Tryd.ntmps28
  go_wp2
  go_ret
  exact ⟨rfl, rfl⟩


theorem refname_calls (op : Int) (w : World) (h0 : -9223372036854775808 ≤ op) (h1 : op ≤ 9223372036854775807) :
    Calls Tryd.prog 9 #[.int .i64 op] w fun e w' => e = .returned (.string (nameOf op)) ∧ Below w.heap.size w w' := by
  have hb : Blk (w.alloc (.cells (nmL.map fun l => Value.string ⟨l.toArray⟩).toArray 9)) w.heap.size 9 (nmL.map fun l => Value.string ⟨l.toArray⟩) := World.alloc_heap_new w _
  have hB : Below w.heap.size w (w.alloc (.cells (nmL.map fun l => Value.string ⟨l.toArray⟩).toArray 9)) := (Below.refl _ w).alloc (Nat.le_refl _) _
  by_cases hin : 1 ≤ op ∧ op ≤ 43
  · have hn : nameOf op = nm (op - 1).toNat := by unfold nameOf; rw [if_pos hin]
    have hc := nm_cell hb (op - 1).toNat (by omega)
    rw [hn]
    have hd1 : decide (op < 1) = false := by simp; omega
    have hd2 : decide (op > 43) = false := by simp; omega
    have hw : wrap64 (op - 1) = ((op - 1).toNat : Int) := by unfold wrap64; omega
    have hlt : (op - 1).toNat < 43 := by omega
    have HB := hide hB
    generalize (op - 1).toNat = k at *
    clear hb hB hn hin
    go_enter Tryd.func9, Tryd.ntmps9
    go_wp2_with fail
    refine (names_calls _).mono ?_
    rintro e w1 ⟨rfl, rfl⟩
    generalize (w.alloc (.cells (nmL.map fun l => Value.string ⟨l.toArray⟩).toArray 9)) = w1 at *
    go_wp2
    go_ret
    exact ⟨rfl, HB.out⟩
  · have hn : nameOf op = ⟨#[]⟩ := by unfold nameOf; rw [if_neg hin]
    rw [hn]
    have HB := hide hB
    clear hb hB hn
    by_cases hlo : op < 1
    · have hd1 : decide (op < 1) = true := by simpa using hlo
      clear hin
      go_enter Tryd.func9, Tryd.ntmps9
      go_wp2_with fail
      refine (names_calls _).mono ?_
      rintro e w1 ⟨rfl, rfl⟩
      generalize (w.alloc (.cells (nmL.map fun l => Value.string ⟨l.toArray⟩).toArray 9)) = w1 at *
      go_wp2
      go_ret
      exact ⟨rfl, HB.out⟩
    · have hd1 : decide (op < 1) = false := by simpa using hlo
      have hd2 : decide (op > 43) = true := by simp; omega
      clear hin
      go_enter Tryd.func9, Tryd.ntmps9
      go_wp2_with fail
      refine (names_calls _).mono ?_
      rintro e w1 ⟨rfl, rfl⟩
      generalize (w.alloc (.cells (nmL.map fun l => Value.string ⟨l.toArray⟩).toArray 9)) = w1 at *
      go_wp2
      go_ret
      exact ⟨rfl, HB.out⟩


def noName (s : ByteArray) (k : Nat) : Prop := ∀ y : Fin 43, y.val < k → nm y.val ≠ s
theorem noName.next {s : ByteArray} {k : Nat} (h : noName s k) (he : nm k ≠ s) : noName s (k + 1) := fun y hy e => by
  by_cases hk : y.val = k
  · rw [hk] at e; exact he e
  · exact h y (by omega) e
theorem reffind_calls (s : ByteArray) (w : World) :
    Calls Tryd.prog 11 #[.string s] w fun e w' => e = .returned (.int .i64 (findOf s)) ∧ Below w.heap.size w w' := by
  have hb : Blk (w.alloc (.cells (nmL.map fun l => Value.string ⟨l.toArray⟩).toArray 9)) w.heap.size 9 (nmL.map fun l => Value.string ⟨l.toArray⟩) := World.alloc_heap_new w _
  have hB : Below w.heap.size w (w.alloc (.cells (nmL.map fun l => Value.string ⟨l.toArray⟩).toArray 9)) := (Below.refl _ w).alloc (Nat.le_refl _) _
  have HB := hide hB
  have HK := hide hb
  clear hb hB
  go_enter Tryd.func11, Tryd.ntmps11
  go_wp2_with fail
  refine (names_calls _).mono ?_
  rintro e w1 ⟨rfl, rfl⟩
  generalize (w.alloc (.cells (nmL.map fun l => Value.string ⟨l.toArray⟩).toArray 9)) = w1 at *
  go_wp2
  go_loopw [4] (fun i wr => ∃ k : Nat, k ≤ 43 ∧ i = .int .i64 k ∧ Hid (noName s k) ∧ wr = w1) (fun i _ => 43 - (intOf i).toNat)
  case atStart => exact ⟨0, Nat.zero_le _, rfl, hide (fun y hy => absurd hy (by omega)), rfl⟩
  case round =>
    obtain ⟨k, hk, rfl, HT, rfl⟩ := hrel
    by_cases hlt : k < 43
    · have hca := nm_cell HK.out k hlt
      by_cases he : nm k = s
      · have HE := hide (findOf_yes (s := s) (y := ⟨k, hlt⟩) he)
        rw [he] at hca
        clear he
        have hx : (s.toList == s.toList) = true := by simp
        go_wp2
        have hw : wrap64 ((k : Int) + 1) = (k : Int) + 1 := by unfold wrap64; omega
        go_ret
        exact ⟨by rw [HE.out]; first | rfl | (rw [hw]; rfl), HB.out⟩
      · have HE := hide (HT.out.next he)
        have hx := (Go.Lib.bytes_beq_false_iff _ _).2 he
        clear he
        generalize nm k = x at *
        go_wp2
        go_roundw
        case rel => exact ⟨k + 1, by omega, by go_num, HE, by trivial⟩
        case measure => simp [intOf]; omega
    · have hk : k = 43 := by omega
      subst hk
      have hn : findOf s = 0 := findOf_no (fun y => HT.out y y.isLt)
      go_wp2
      go_ret
      exact ⟨by rw [hn]; rfl, HB.out⟩

end Go.Proofs.YtidceolaemikgaaDoor
