/- The core: what it has in memory; put, goes, on, branch. -/
import Derived.Test.YtjfnpokebaagmaaGreatDoorBL1
import Derived.Test.YtjfnpokebaagmaaGreatDoorPbB
namespace Go.Proofs.YtjfnpokebaagmaaGreatDoor
open Go.RowKit Go.Deep Go.Maps
set_option linter.unusedVariables false
attribute [local go_sem] Oper.semAt_some
structure CS where
 regs : List Int
 pc : Int
 st : Int
 cost : Int
 marks : List (Int × Int × Int)
def coreCells (bp cv mv : Value) (s : CS) : List Value := [bp, cv] ++ (s.regs.map (Value.int .i32) ++ [.int .i64 s.pc, .int .i64 s.st, .int .i64 s.cost, mv])
def rowCells (l : List (Ins5 × Bool)) : List Value := l.flatMap fun p => insCells p.1 ++ [.bool p.2]
def markCells (l : List (Int × Int × Int)) : List Value := l.flatMap fun p => [.int .i64 p.1, .int .i64 p.2.1, .int .i64 p.2.2]
theorem markCells_snoc (l : List (Int × Int × Int)) (p : Int × Int × Int) : markCells (l ++ [p]) = markCells l ++ [.int .i64 p.1, .int .i64 p.2.1, .int .i64 p.2.2] := by simp [markCells]
structure CB (w : World) (c : Nat) (bp cv mv : Value) (code : List (Ins5 × Bool)) (s : CS) : Prop where
 blk : Blk w c 86 (coreCells bp cv mv s)
 rowC : w.ownsRow 0 90 6 cv code.length (rowCells code)
 rowM : w.ownsRow 0 189 3 mv s.marks.length (markCells s.marks)
 reg : s.regs.length = 32
section
variable {bp cv mv : Value} {s : CS}
theorem cc_at (h : s.regs.length = 32) : (coreCells bp cv mv s)[34]? = some (.int .i64 s.pc) ∧ (coreCells bp cv mv s)[35]? = some (.int .i64 s.st) ∧ (coreCells bp cv mv s)[36]? = some (.int .i64 s.cost) ∧ (coreCells bp cv mv s)[37]? = some mv := by
 unfold coreCells
 refine ⟨?_, ?_, ?_, ?_⟩ <;> (rw [List.getElem?_append_right (by simp), List.getElem?_append_right (by simp [h])]; simp [h])
theorem cc_reg (h : s.regs.length = 32) (i : Nat) (hi : i < 32) : (coreCells bp cv mv s)[2 + i]? = some (.int .i32 (s.regs.getD i 0)) := by
 unfold coreCells
 rw [List.getElem?_append_right (by simp), List.getElem?_append_left (by simp [h]; omega)]
 simp [h, hi]
theorem cc_set34 (h : s.regs.length = 32) (x : Int) : (coreCells bp cv mv s).set 34 (.int .i64 x) = coreCells bp cv mv { s with pc := x } := by unfold coreCells; simp [h]
theorem cc_set35 (h : s.regs.length = 32) (x : Int) : (coreCells bp cv mv s).set 35 (.int .i64 x) = coreCells bp cv mv { s with st := x } := by unfold coreCells; simp [h]
theorem cc_set36 (h : s.regs.length = 32) (x : Int) : (coreCells bp cv mv s).set 36 (.int .i64 x) = coreCells bp cv mv { s with cost := x } := by unfold coreCells; simp [h]
theorem cc_set37 (h : s.regs.length = 32) (x : Value) : (coreCells bp cv mv s).set 37 x = coreCells bp cv x s := by unfold coreCells; simp [h]
theorem cc_setr (h : s.regs.length = 32) (i : Nat) (hi : i < 32) (x : Int) : (coreCells bp cv mv s).set (2 + i) (.int .i32 x) = coreCells bp cv mv { s with regs := s.regs.set i x } := by
 have hl : i < (s.regs.map (Value.int .i32)).length := by simp [h]; omega
 show (bp :: cv :: (s.regs.map (Value.int .i32) ++ [.int .i64 s.pc, .int .i64 s.st, .int .i64 s.cost, mv])).set (2 + i) (.int .i32 x) = bp :: cv :: ((s.regs.set i x).map (Value.int .i32) ++ [.int .i64 s.pc, .int .i64 s.st, .int .i64 s.cost, mv])
 rw [Nat.add_comm 2 i, List.set_cons_succ, List.set_cons_succ, List.set_append, if_pos hl, List.map_set]
end
def footC (c : Nat) (cv mv : Value) : List Nat := [c] ++ (cv.ownBlock.toList ++ mv.ownBlock.toList)
theorem CB.chg {w w' : World} {c : Nat} {bp cv mv : Value} {code : List (Ins5 × Bool)} {s : CS} {D : List Nat} (h : CB w c bp cv mv code s) (hc : Chg w w' D) (hD : ∀ k ∈ footC c cv mv, k ∉ D) : CB w' c bp cv mv code s where
 blk := h.blk.chg hc (hD c (by simp [footC]))
 rowC := own_chgD h.rowC hc (fun g hg => hD g (by simp [footC, hg]))
 rowM := own_chgD h.rowM hc (fun g hg => hD g (by simp [footC, hg]))
 reg := h.reg
theorem CB.ne {w : World} {c : Nat} {bp cv mv : Value} {code : List (Ins5 × Bool)} {s : CS} (h : CB w c bp cv mv code s) : cv.ownBlock ≠ some c ∧ mv.ownBlock ≠ some c ∧ (∀ g, cv.ownBlock = some g → mv.ownBlock ≠ some g) := by
 refine ⟨fun e => ?_, fun e => ?_, fun g hg e => ?_⟩
 · obtain ⟨cur, hc⟩ := row_heap h.rowC e
   exact obj_ne hc h.blk (by decide) rfl
 · obtain ⟨cur, hc⟩ := row_heap h.rowM e
   exact obj_ne hc h.blk (by decide) rfl
 · obtain ⟨cur, hc⟩ := row_heap h.rowC hg
   obtain ⟨cur', hc'⟩ := row_heap h.rowM e
   exact obj_ne hc hc' (by decide) rfl
def CoreP (s : CS) (c : Nat) (bp cv mv : Value) (code : List (Ins5 × Bool)) (w w' : World) : Prop :=
 Chg w w' ([c] ++ mv.ownBlock.toList) ∧ ∃ mv', (mv'.ownBlock = mv.ownBlock ∨ ∃ g, mv'.ownBlock = some g ∧ w.heap.size ≤ g) ∧ CB w' c bp cv mv' code s
def putC (s : CS) (i : Nat) (x : Int) : CS := if i = 0 then s else { s with regs := s.regs.set i x }
def goesC (s : CS) (next addr cost : Int) : CS := { s with pc := next, cost := wrap64 (s.cost + cost), marks := s.marks ++ [(s.pc, addr, cost)] }
set_option maxRecDepth 100000 in
theorem put_calls {w : World} {c : Nat} {bp cv mv : Value} {code : List (Ins5 × Bool)} {s : CS} (h : CB w c bp cv mv code s) (i : Nat) (hi : i < 32) (x : Int) :
 Calls Tryz.prog 78 #[.pointer (some ⟨c, 0, none⟩), .int .i64 i, .int .i32 x] w fun e w' => (∃ v, e = .returned v) ∧ CoreP (putC s i x) c bp cv mv code w w' := by
 have H := hide h
 by_cases h0 : i = 0
 · subst h0
   clear h
   go_enter Tryz.func78, Tryz.ntmps78
   go_wp2
   refine bodyPost_end (results_none rfl _ _ _) rfl ?_
   exact ⟨⟨_, rfl⟩, Chg.refl _ _, mv, .inl rfl, H.out⟩
 · have hx : ((i : Int) != 0) = true := by simp [h0]
   have hx2 : ((i : Int) == 0) = false := by simp [h0]
   have hcell := h.blk.cell' (cc_reg h.reg i hi)
   have hfz := h.blk.frozen (2 + i)
   have hlt := h.blk.lt
   have hi2 : (i : Int) < 32 := by omega
   clear h
   have H0 := hide h0
   clear h0
   go_enter Tryz.func78, Tryz.ntmps78
   go_wp2
   refine bodyPost_end (results_none rfl _ _ _) rfl ?_
   refine ⟨⟨_, rfl⟩, (Chg.refl w _).setCell _ _ (.inl (by simp)), mv, .inl rfl, ?_⟩
   have hc : Chg w (w.setCell ⟨c, 2 + i, none⟩ (.int .i32 x)) [c] := (Chg.refl w _).setCell _ _ (.inl (by simp))
   obtain ⟨n1, n2, n3⟩ := H.out.ne
   have hb := H.out.blk.set_ (2 + i) (.int .i32 x)
   rw [cc_setr H.out.reg i hi x] at hb
   unfold putC
   rw [if_neg H0.out]
   exact ⟨hb, own_chgD H.out.rowC hc (fun g hg hm => by simp at hm; subst hm; exact n1 hg), own_chgD H.out.rowM hc (fun g hg hm => by simp at hm; subst hm; exact n2 hg), by simpa using H.out.reg⟩
end Go.Proofs.YtjfnpokebaagmaaGreatDoor
