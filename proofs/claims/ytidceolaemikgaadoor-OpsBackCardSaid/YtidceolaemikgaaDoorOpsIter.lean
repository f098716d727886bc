/- The iterator of package ops: all operations' names, one after another. -/
import Derived.RangeFuncNested
import Derived.RangeFuncBound
import Derived.RangeFuncCalls
import Derived.RangeFuncLeaves
import Derived.Shelf.Abstract
import Derived.Shelf.RegionOpen
import Derived.WalkKit
import Derived.OwnWalkIn
import Derived.TacticsInMore
import Derived.LoopNIn
import Derived.LoopIn
import Derived.Test.YtidceolaemikgaaDoorMem
import Derived.Test.YtidceolaemikgaaDoorShelfA
namespace Go.Proofs.YtidceolaemikgaaDoor
open Go.RowKit Go.Deep Go.Shelf
set_option linter.unusedVariables false
attribute [local go_sem] Oper.semAt_some

/-- The table of spaces lies as it was laid. -/
abbrev Tab (w : World) : Prop := Lib.TabIs Tryd.prog w "strings.asciiSpace" .u8 Lib.asciiSpaceTab

theorem Tab.heap {w : World} (h : Tab w) : ∃ cs t fr, w.heap[1]? = some (.cells cs t fr) := by
  have h' : w.var? Tryd.prog "strings.asciiSpace" = some _ := h
  unfold World.var? at h'
  rw [show Tryd.prog.globalNamed "strings.asciiSpace" = some 1 by kernel_rfl] at h'
  simp only [Option.bind_some] at h'
  split at h'
  · exact ⟨_, _, _, ‹_›⟩
  · simp at h'
theorem Tab.keep {w w' : World} (h : Tab w) (hk : w'.heap[1]? = w.heap[1]?) : Tab w' := by
  have h' : w.var? Tryd.prog "strings.asciiSpace" = some _ := h
  show w'.var? Tryd.prog "strings.asciiSpace" = some _
  unfold World.var? at h' ⊢
  rw [show Tryd.prog.globalNamed "strings.asciiSpace" = some 1 by kernel_rfl] at h' ⊢
  simp only [Option.bind_some] at h' ⊢
  rw [hk]; exact h'
theorem Tab.lt {w : World} (h : Tab w) : 1 < w.heap.size := by obtain ⟨_, _, _, h⟩ := h.heap; exact lt_of_heap h
theorem Tab.below {w w' : World} (h : Tab w) (hb : Below w.heap.size w w') : Tab w' := h.keep (hb.block _ h.lt)

/-- Blocks of cells stay, but for rb. -/
def KC (rb : Nat) (W W' : World) : Prop := ∀ k cs t fr, k ≠ rb → W.heap[k]? = some (.cells cs t fr) → W'.heap[k]? = some (.cells cs t fr)
theorem KC.trans {rb : Nat} {A B C : World} (h : KC rb A B) (k : KC rb B C) : KC rb A C := fun i cs t fr hi h0 => k i cs t fr hi (h i cs t fr hi h0)
theorem KC.putObj {rb B : Nat} (W : World) (l : Nat) (o o' : Obj) (hl : B ≤ l) (h : W.heap[l]? = some o) (hc : o.isCells = false) (hw : o.isWalk = false) : KC rb W (W.putObj l o') := by
  intro k cs t fr hk h0
  by_cases e : k = l
  · subst e; rw [h] at h0; injection h0 with h0; subst h0; simp [Obj.isCells] at hc
  · rw [World.putObj_heap_other e]; exact h0

theorem all_calls (w : World) : Calls Tryd.prog 27 #[] w fun e w' => e = .returned (.func (.func 42) #[] #[]) ∧ w = w' := by
  go_enter Tryd.func27, Tryd.ntmps27
  go_wp2
  go_ret
  exact ⟨rfl, rfl⟩

/-- The text of all names, and the names. -/
def opsText : ByteArray := ⟨#[97, 100, 100, 32, 115, 117, 98, 32, 97, 100, 100, 115, 32, 115, 117, 98, 115, 32, 97, 110, 100, 32, 111, 114, 32, 120, 111, 114, 32, 98, 105, 99, 32, 115, 104, 108, 32, 115, 104, 114, 32, 115, 97, 114, 32, 114, 111, 108, 32, 115, 108, 116, 32, 115, 108, 116, 117, 32, 115, 101, 113, 32, 109, 105, 110, 32, 109, 97, 120, 32, 109, 117, 108, 32, 109, 117, 108, 104, 32, 109, 117, 108, 113, 32, 109, 117, 108, 114, 32, 100, 105, 118, 32, 114, 101, 109, 32, 99, 108, 122, 32, 110, 101, 103, 32, 97, 98, 115, 32, 109, 97, 115, 107, 32, 115, 105, 103, 110, 32, 104, 97, 108, 102, 32, 104, 105, 103, 104, 32, 97, 100, 100, 105, 32, 111, 114, 105, 32, 108, 117, 105, 32, 108, 119, 32, 115, 119, 32, 98, 101, 113, 32, 98, 110, 101, 32, 98, 108, 116, 32, 106, 117, 109, 112, 32, 106, 97, 108, 32, 106, 114, 32, 110, 111, 112, 32, 104, 97, 108, 116]⟩
def nmL : List (List UInt8) := [[97, 100, 100], [115, 117, 98], [97, 100, 100, 115], [115, 117, 98, 115], [97, 110, 100], [111, 114], [120, 111, 114], [98, 105, 99], [115, 104, 108], [115, 104, 114], [115, 97, 114], [114, 111, 108], [115, 108, 116], [115, 108, 116, 117], [115, 101, 113], [109, 105, 110], [109, 97, 120], [109, 117, 108], [109, 117, 108, 104], [109, 117, 108, 113], [109, 117, 108, 114], [100, 105, 118], [114, 101, 109], [99, 108, 122], [110, 101, 103], [97, 98, 115], [109, 97, 115, 107], [115, 105, 103, 110], [104, 97, 108, 102], [104, 105, 103, 104], [97, 100, 100, 105], [111, 114, 105], [108, 117, 105], [108, 119], [115, 119], [98, 101, 113], [98, 110, 101], [98, 108, 116], [106, 117, 109, 112], [106, 97, 108], [106, 114], [110, 111, 112], [104, 97, 108, 116]]
def leakText : ByteArray := ⟨#[100, 105, 118, 32, 114, 101, 109, 32, 108, 119, 32, 115, 119, 32, 98, 101, 113, 32, 98, 110, 101, 32, 98, 108, 116, 32, 106, 114]⟩
def leakL : List (List UInt8) := [[100, 105, 118], [114, 101, 109], [108, 119], [115, 119], [98, 101, 113], [98, 110, 101], [98, 108, 116], [106, 114]]
def nm (i : Nat) : ByteArray := ⟨(nmL.getD i []).toArray⟩
def ascii (l : List UInt8) : Bool := l.all fun b => decide (b.toNat < 128)
theorem ascii_of {l : List UInt8} (h : ascii l = true) : ∀ (j : Nat) b, l[j]? = some b → b.toNat < 128 := fun j b hb => by
  have := List.all_eq_true.1 h b (List.mem_of_getElem? hb)
  simpa using this
theorem fields_ops (W : World) (ht : Tab W) : Calls Tryd.prog 31 #[.string opsText] W fun e w' => e = .returned (.slice (some ⟨W.heap.size, 0, none⟩) 43 43) ∧ w' = W.alloc (.cells (nmL.map fun l => Value.string ⟨l.toArray⟩).toArray 9) := by
  have h := Tryd.strings_Fields_laid opsText W (of_decide_eq_true (by kernel_rfl)) (ascii_of (by kernel_rfl)) ht
  have e : Lib.fields opsText.data.toList = nmL := by kernel_rfl
  rw [e] at h
  exact h
theorem fields_leaks (W : World) (ht : Tab W) : Calls Tryd.prog 31 #[.string leakText] W fun e w' => e = .returned (.slice (some ⟨W.heap.size, 0, none⟩) 8 8) ∧ w' = W.alloc (.cells (leakL.map fun l => Value.string ⟨l.toArray⟩).toArray 9) := by
  have h := Tryd.strings_Fields_laid leakText W (of_decide_eq_true (by kernel_rfl)) (ascii_of (by kernel_rfl)) ht
  have e : Lib.fields leakText.data.toList = leakL := by kernel_rfl
  rw [e] at h
  exact h
theorem nm_cell {W : World} {q : Nat} (h : Blk W q 9 (nmL.map fun l => Value.string ⟨l.toArray⟩)) (k : Nat) (hk : k < 43) : W.cell? ⟨q, k, none⟩ = some (.string (nm k)) := by
  refine h.cell' ?_
  have hl : k < nmL.length := hk
  rw [List.getElem?_map, List.getElem?_eq_getElem hl]
  unfold nm
  rw [List.getD_eq_getElem?_getD, List.getElem?_eq_getElem hl]
  rfl

def encs (x : Fin 43) : Array Value := #[.int .i64 ((x.val : Int) + 1), .string (nm x.val)]

theorem KC.blk {rb : Nat} {A B : World} (h : KC rb A B) {q : Nat} (hq : q ≠ rb) {t : TypeId} {cs : List Value} (hb : Blk A q t cs) : Blk B q t cs := h _ _ _ _ hq hb
set_option maxRecDepth 100000 in
set_option maxHeartbeats 2000000 in
/-- The iterator's contract. -/
theorem iter_stops (n rb : Nat) (hn : 1 ≤ n) (w : World) (ht : Tab w) (hrb : rb < w.heap.size) : SeqStopsK Fence.wide n Tryd.prog 42 #[] encs (KC rb) (fun xs => ∀ y, y ∈ xs) (fun _ => True) 43 w := by
  intro l J Jx W hW hJ hJx hY h0
  have htW : Tab W := ht.below hW
  refine callsIn_of_wp Tryd.func42 rfl trivial ?_ rfl
  simp only [Tryd.ntmps42, List.size_toArray, List.length_cons, List.length_nil, Nat.reduceAdd, Nat.reduceSub, Array.replicate_succ, Array.replicate_zero, List.push_toArray, List.append_toArray, List.nil_append, List.cons_append]
  gi_wp2_with fail
  refine ⟨trivial, ?_⟩
  show CallsIn _ _ _ _ #[.string opsText] _ _
  refine (callsIn_wide.2 (fields_ops W htW)).mono ?_
  rintro e w1 ⟨rfl, rfl⟩
  have hb : Blk (W.alloc (.cells (nmL.map fun l => Value.string ⟨l.toArray⟩).toArray 9)) W.heap.size 9 (nmL.map fun l => Value.string ⟨l.toArray⟩) := World.alloc_heap_new W _
  have hq : W.heap.size ≠ rb := by have := hW.size; omega
  have h1 : J [] (W.alloc (.cells (nmL.map fun l => Value.string ⟨l.toArray⟩).toArray 9)) := hJ _ _ _ none h0 (World.grownBy_alloc W _ none) (fun r e => by cases e)
  generalize (W.alloc (.cells (nmL.map fun l => Value.string ⟨l.toArray⟩).toArray 9)) = w1 at hb h1 ⊢
  generalize W.heap.size = q at hb hq ⊢
  clear hW htW ht h0 hJ hJx
  gi_wp2_with fail
  gi_loopw [6] (fun p wr => ∃ k : Nat, p = .int .i64 (k : Int) ∧ k ≤ 43 ∧ J ((List.finRange 43).take k) wr ∧ Hid (Blk wr q 9 (nmL.map fun l => Value.string ⟨l.toArray⟩)))
    (fun p wr => 43 - (intOf p).toNat)
  case atStart => exact ⟨0, rfl, by omega, h1, hide hb⟩
  case round =>
    clear h1 hb
    obtain ⟨k, rfl, hk, hj, HB⟩ := hrel
    by_cases hlt : k < 43
    · have hc := nm_cell HB.out k hlt
      obtain ⟨fn, tmps, assign, body, hy, hR⟩ := hY _ (⟨k, hlt⟩ : Fin 43) wr hj (by simp; omega)
      have hw : wrap64 ((k : Int) + 1) = (k : Int) + 1 := by unfold wrap64; omega
      have hd : decide ((k : Int) < 43) = true := by simp; omega
      change Sem.run Tryd.prog (Instr.yield l #[.int .i64 ((k : Int) + 1), .string (nm k)]) wr = _ at hy
      clear hY
      gi_wp2
      refine hR.mono ?_
      rintro e W3 (⟨rfl, hJ3, hk3⟩ | ⟨rfl, hJx3⟩)
      · have HB3 := hide (hk3.blk hq HB.out)
        have hw1 : wrap64 ((k : Int) + 1) = ((k + 1 : Nat) : Int) := by rw [hw]; simp
        gi_wp2
        go_roundw
        case rel =>
          refine ⟨k + 1, ?_, by omega, ?_, HB3⟩
          · simp
          · rw [List.take_add_one, List.getElem?_eq_getElem (by simpa using hlt), List.getElem_finRange]; exact hJ3
        case measure => first | omega | (show 43 - (((k + 1 : Nat) : Int)).toNat < 43 - ((k : Int)).toNat; omega)
      · gi_wp2
        refine bodyPost_ret (results_none rfl _ _ _) rfl ?_
        exact ⟨⟨_, rfl⟩, .inr ⟨_, trivial, hJx3⟩⟩
    · have hk43 : k = 43 := by omega
      subst hk43
      gi_wp2
      go_end0
      exact ⟨⟨_, rfl⟩, .inl ⟨_, fun y => by rw [List.take_of_length_le (by simp)]; exact List.mem_finRange y, hj⟩⟩

end Go.Proofs.YtidceolaemikgaaDoor
