/- Texts of this claim, side by side: SampleB, ModelJ, ModelK. -/
import Derived.Test.YtihgijhjhmjolaaGreatDoorSampleA
import Derived.Test.YtihgijhjhmjolaaGreatDoorVP13
import Derived.Test.YtihgijhjhmjolaaGreatDoorVP14
/- sample.Read. -/
namespace Go.Proofs.YtihgijhjhmjolaaGreatDoor.Xi
open Go Go.RowKit Go.Deep
set_option linter.unusedVariables false
def ppairX (h l : Int) : Int := bits .or .u16 (IntKind.u16.wrap (IntKind.u16.wrap h * 2 ^ 8)) (IntKind.u16.wrap l)
set_option maxRecDepth 100000 in
theorem ppair_run (h l : Int) : runP (cxR [] [] []) (tabOf []) 400 46 [.opq 0, .opq 1] [.int .u8 h, .int .u8 l] = some (.int .i32 (IntKind.i32.wrap (IntKind.i16.wrap (ppairX h l))), []) := by kernel_rfl
theorem wrap_i16 (n : Int) : IntKind.i16.wrap n = (n + 32768) % 65536 - 32768 := by
 simp only [IntKind.wrap, IntKind.bits, IntKind.signed]
 simp
 split <;> omega
theorem wrap_u16 (n : Int) : IntKind.u16.wrap n = n % 65536 := by simp [IntKind.wrap, IntKind.bits, IntKind.signed]
theorem ppairX_eq {h l : Int} (hh : 0 ≤ h ∧ h ≤ 255) (hl : 0 ≤ l ∧ l ≤ 255) : ppairX h l = 256 * h + l := by
 obtain ⟨m, rfl⟩ : ∃ n : Nat, h = n := ⟨h.toNat, by omega⟩
 obtain ⟨n, rfl⟩ : ∃ n : Nat, l = n := ⟨l.toNat, by omega⟩
 unfold ppairX
 simp only [wrap_u16]
 rw [show (m : Int) % 65536 * 2 ^ 8 % 65536 = ((256 * m : Nat) : Int) by omega, show (n : Int) % 65536 = n by omega]
 show IntKind.u16.wrap (((BitVec.ofInt 16 ((256 * m : Nat) : Int)) ||| (BitVec.ofInt 16 (n : Int))).toNat : Int) = _
 have h2 := Nat.two_pow_add_eq_or_of_lt (i := 8) (b := n) (by omega) m
 rw [BitVec.ofInt_natCast, BitVec.ofInt_natCast, BitVec.toNat_or, BitVec.toNat_ofNat, BitVec.toNat_ofNat, Nat.mod_eq_of_lt (by omega : 256 * m < 2 ^ 16), Nat.mod_eq_of_lt (by omega : n < 2 ^ 16), wrap_u16, show 256 * m ||| n = 2 ^ 8 * m + n from h2.symm]
 omega
theorem ppair_calls (h l : Int) (hh : 0 ≤ h ∧ h ≤ 255) (hl : 0 ≤ l ∧ l ≤ 255) (w : World) : Calls Tryz.prog 46 #[.int .u8 h, .int .u8 l] w fun e w' => e = .returned (.int .i32 (pairI h l)) ∧ Chg w w' [] := by
 have hg : goodL [.int .u8 h, .int .u8 l] := fun v hv => by
  simp at hv
  rcases hv with rfl | rfl
  · exact good_u8' hh
  · exact good_u8' hl
 have := cxR_calls _ (ppair_run h l) hg obs0 w
 rw [ppairX_eq hh hl, wrap_i16, show IntKind.i32.wrap ((256 * h + l + 32768) % 65536 - 32768) = pairI h l by unfold pairI; rw [IntKind.wrap_i32]; omega] at this
 exact this
end Go.Proofs.YtihgijhjhmjolaaGreatDoor.Xi
namespace Go.Proofs.YtihgijhjhmjolaaGreatDoor
open Go.RowKit Go.Deep Go.Shelf
attribute [local go_sem] Oper.semAt_some
theorem blk_own {β : Type} (b : Nat) (t : TypeId) (f : β → List Value) : Own (fun s W => Blk W b t (f s)) := fun s A B row hs hg hr =>
 (hg.block _ hs.lt (fun e => by
   obtain ⟨o, ho, hc⟩ := hr b e.symm
   rw [show A.heap[b]? = _ from hs] at ho
   injection ho with ho
   subst ho
   simp [Obj.isCells] at hc)).trans hs
def cellsOf (pv : Nat → Int) (pre : List (Fin 9)) : List Value := pre.foldl (fun cs x => cs.set x.val (.int .i32 (pv x.val))) (List.replicate 9 (.int .i32 0))
theorem cellsOf_snoc (pv : Nat → Int) (pre : List (Fin 9)) (x : Fin 9) : cellsOf pv (pre ++ [x]) = (cellsOf pv pre).set x.val (.int .i32 (pv x.val)) := by unfold cellsOf; rw [List.foldl_append]; rfl
theorem cellsOf_all (pv : Nat → Int) : cellsOf pv (List.finRange 9) = (List.range 9).map fun i => .int .i32 (pv i) := by rfl
theorem cellsOf_len (pv : Nat → Int) (pre : List (Fin 9)) : (cellsOf pv pre).length = 9 := by
 unfold cellsOf
 have : ∀ (l : List (Fin 9)) (cs : List Value), (l.foldl (fun cs x => cs.set x.val (.int .i32 (pv x.val))) cs).length = cs.length := fun l => by
  induction l with
  | nil => intro cs; rfl
  | cons x l ih => intro cs; rw [List.foldl_cons, ih, List.length_set]
 rw [this]; rfl
theorem hx_get {xs : List Nat} (hx : ∀ x ∈ xs, x < 256) (i : Nat) : 0 ≤ Xi.xI xs i ∧ Xi.xI xs i ≤ 255 := by
 unfold Xi.xI
 rcases Nat.lt_or_ge i xs.length with h | h
 · have := hx xs[i] (List.getElem_mem h)
   rw [List.getD_eq_getElem?_getD, List.getElem?_eq_getElem h]
   simp only [Option.getD_some]
   omega
 · rw [List.getD_eq_getElem?_getD, List.getElem?_eq_none h]
   simp
theorem sall_calls (sb : Nat) (w : World) : Calls Tryz.prog 45 #[.pointer (some ⟨sb, 0, none⟩)] w fun e w' => e = .returned (.func (.func 85) #[] #[.pointer (some ⟨w.heap.size, 0, none⟩)]) ∧ w' = w.alloc (.cells #[.pointer (some ⟨sb, 0, none⟩)] 99) := by
 go_enter Tryz.func45, Tryz.ntmps45
 go_wp2
 go_ret
 exact ⟨rfl, rfl⟩
def put9 (w5 : World) (B1 : Nat) (p0 p1 p2 p3 p4 p5 p6 p7 p8 : Value) : World := ((((((((w5.setCell ⟨B1, 0, none⟩ p0).setCell ⟨B1, 1, none⟩ p1).setCell ⟨B1, 2, none⟩ p2).setCell ⟨B1, 3, none⟩ p3).setCell ⟨B1, 4, none⟩ p4).setCell ⟨B1, 5, none⟩ p5).setCell ⟨B1, 6, none⟩ p6).setCell ⟨B1, 7, none⟩ p7).setCell ⟨B1, 8, none⟩ p8
theorem put9_chg (w5 : World) (B1 : Nat) (p0 p1 p2 p3 p4 p5 p6 p7 p8 : Value) : Chg w5 (put9 w5 B1 p0 p1 p2 p3 p4 p5 p6 p7 p8) [B1] := ((((((((((Chg.refl w5 [B1]).setCell ⟨B1, 0, none⟩ p0 (.inl (by simp))).setCell ⟨B1, 1, none⟩ p1 (.inl (by simp))).setCell ⟨B1, 2, none⟩ p2 (.inl (by simp))).setCell ⟨B1, 3, none⟩ p3 (.inl (by simp))).setCell ⟨B1, 4, none⟩ p4 (.inl (by simp))).setCell ⟨B1, 5, none⟩ p5 (.inl (by simp))).setCell ⟨B1, 6, none⟩ p6 (.inl (by simp))).setCell ⟨B1, 7, none⟩ p7 (.inl (by simp))).setCell ⟨B1, 8, none⟩ p8 (.inl (by simp)))
theorem put9_blk {w5 : World} {B1 : Nat} {t : TypeId} {z : Value} (k1 : Blk w5 B1 t [z, z, z, z, z, z, z, z, z]) (p0 p1 p2 p3 p4 p5 p6 p7 p8 : Value) : Blk (put9 w5 B1 p0 p1 p2 p3 p4 p5 p6 p7 p8) B1 t [p0, p1, p2, p3, p4, p5, p6, p7, p8] := (((((((((k1.set_ 0 p0).set_ 1 p1).set_ 2 p2).set_ 3 p3).set_ 4 p4).set_ 5 p5).set_ 6 p6).set_ 7 p7).set_ 8 p8)
theorem results_ctt {fn : Func} {c t u : Tmp} {T : TypeId} (h : fn.results = #[.cell c T, .tmp t, .tmp u]) (tmps : Array Value) (P : Program) (w : World) {A : Addr} {v : Value} (ha : tmps.getD c undef = .pointer (some A)) (hl : (loadVar T A).run P w = .ok v w) :
 (results fn tmps).run P w = .ok (.tuple #[v, tmps.getD t undef, tmps.getD u undef]) w := by
 have e : results fn tmps = (do let vs ← fn.results.mapM (Xi.resF tmps); pure (if h : vs.size = 1 then vs[0] else .tuple vs)) := rfl
 rw [e, h, Array.mapM_eq_mapM_toList]
 simp [Xi.resF, ha, asAddr, hl]
theorem step_val {P : Program} {o : Oper} {a : Act} {w w' : World} {K : Act → World → Prop} {Q : Exit → Act → World → Prop} {v : Value} (he : (execOp a.eval o).run P w = .ok (.value v) w') (hk : K (a.put o.dst v) w') :
 (∀ r args w', (execOp a.eval o).run P w ≠ .ok (.row r args) w') ∧ o.wp P a w K Q := by
 refine ⟨fun r args w' h => (by rw [he] at h; cases h), ?_⟩
 unfold Oper.wp
 rw [he]
 exact hk
theorem step_call {P : Program} {o : Oper} {a : Act} {w : World} {K : Act → World → Prop} {Q : Exit → Act → World → Prop} {f : FuncId} {args : Array Value} {R : Ending → World → Prop} (he : (execOp a.eval o).run P w = .ok (.enter f args) w) (hc : Calls P f args w R)
 (hk : ∀ e w', R e w' → ∃ v, e = .returned v ∧ K (a.put o.dst v) w') : (∀ r args w', (execOp a.eval o).run P w ≠ .ok (.row r args) w') ∧ o.wp P a w K Q := by
 refine ⟨fun r args w' h => (by rw [he] at h; cases h), ?_⟩
 unfold Oper.wp
 rw [he]
 refine hc.mono fun e w' hr => ?_
 obtain ⟨v, rfl, h⟩ := hk e w' hr
 exact h
theorem step_skip {P : Program} {o : Oper} {a : Act} {w w' : World} {K : Act → World → Prop} {Q : Exit → Act → World → Prop} (he : (execOp a.eval o).run P w = .ok .skip w') (hk : K (a.put o.dst undef) w') :
 (∀ r args w', (execOp a.eval o).run P w ≠ .ok (.row r args) w') ∧ o.wp P a w K Q := by
 refine ⟨fun r args w' h => (by rw [he] at h; cases h), ?_⟩
 unfold Oper.wp
 rw [he]
 exact hk
def vlR (gb go c k sb : Nat) (X0 X1 P : Int) : Nat → Value
 | 0 => .pointer (some ⟨sb, k, none⟩)
 | 1 => .slice (some ⟨gb, go, none⟩) 20 c
 | 2 => .int .i64 (k : Int)
 | 3 => .int .i64 ((2 * k : Nat) : Int)
 | 4 => .pointer (some ⟨gb, go + 2 * k, none⟩)
 | 5 => .int .u8 X0
 | 6 => .slice (some ⟨gb, go, none⟩) 20 c
 | 7 => .int .i64 (k : Int)
 | 8 => .int .i64 ((2 * k : Nat) : Int)
 | 9 => .int .i64 ((2 * k + 1 : Nat) : Int)
 | 10 => .pointer (some ⟨gb, go + (2 * k + 1), none⟩)
 | 11 => .int .u8 X1
 | 12 => .int .i32 P
 | 13 => .pointer (some ⟨sb, k, none⟩)
 | _ => undef
structure RJ (W : World) (b0 gb go c k sb : Nat) (X0 X1 P : Int) (L : Nat → Bool) (a : Act) (w : World) : Prop where
 sz : a.tmps.size = 45
 v : ∀ i, i < 14 → L i = true → a.tmps.getD (23 + i) undef = vlR gb go c k sb X0 X1 P i
 t1 : a.tmps.getD 1 undef = .pointer (some ⟨b0, 0, none⟩)
 t6 : a.tmps.getD 6 undef = .int .i64 (k : Int)
 t7 : a.tmps.getD 7 undef = .pointer (some ⟨sb, k, none⟩)
 wd : L 14 = false → Chg W w []
 we : L 14 = true → (∃ w0, Chg W w0 [] ∧ w = w0.setCell ⟨sb, k, none⟩ (.int .i32 P)) ∧ ∀ i, i < 14 → L i = true
section
variable {W : World} {b0 gb go c k sb : Nat} {X0 X1 P : Int} {L : Nat → Bool} {a : Act} {w : World}
theorem RJ.early (h : RJ W b0 gb go c k sb X0 X1 P L a w) {i : Nat} (hi : i < 14) (hL : L i = false) : Chg W w [] ∧ L 14 = false := by
 cases h14 : L 14 with
 | false => exact ⟨h.wd h14, rfl⟩
 | true =>
  have := (h.we h14).2 i hi
  rw [hL] at this
  cases this
theorem RJ.put (h : RJ W b0 gb go c k sb X0 X1 P L a w) {i : Nat} (hi : i < 14) (hL : L i = false) {w' : World} (hc : Chg W w' []) : RJ W b0 gb go c k sb X0 X1 P (fun j => if j = i then true else L j) (a.put (some (23 + i)) (vlR gb go c k sb X0 X1 P i)) w' := by
 have h14 := (h.early hi hL).2
 have far : ∀ t, 23 + i ≠ t → (a.put (some (23 + i)) (vlR gb go c k sb X0 X1 P i)).tmps.getD t undef = a.tmps.getD t undef := fun t ht => by
  simp only [Act.put, Array.getD_eq_getD_getElem?]
  rw [Array.getElem?_setIfInBounds_ne ht]
 have hsz := h.sz
 refine ⟨by simp [Act.put, h.sz], fun j hj hLj => ?_, (far _ (by omega)).trans h.t1, (far _ (by omega)).trans h.t6, (far _ (by omega)).trans h.t7, fun _ => hc, fun hq => ?_⟩
 · by_cases e : j = i
   · subst e
     simp only [Act.put, Array.getD_eq_getD_getElem?]
     rw [Array.getElem?_setIfInBounds_self_of_lt (by omega)]
     rfl
   · simp only [if_neg e] at hLj
     exact (far _ (by omega)).trans (h.v j hj hLj)
 · rw [if_neg (by omega), h14] at hq
   cases hq
end
open Xi in
set_option maxRecDepth 100000 in
set_option maxHeartbeats 4000000 in
theorem read_calls (xs : List Nat) (hl : xs.length = 20) (hx : ∀ x ∈ xs, x < 256) (gb go c : Nat) (w : World) (hv : Sl w (.slice (some ⟨gb, go, none⟩) 20 c) (u8s xs)) (ht : FTab w) :
 Calls Tryz.prog 28 #[.slice (some ⟨gb, go, none⟩) 20 c] w fun e w' => e = .returned (.tuple #[.agg ((List.range 9).map fun i => .int .i32 (pairI (xI xs (2 * i)) (xI xs (2 * i + 1)))).toArray, .bool (sumOk xs 18), .int .i64 0]) ∧ Chg w w' [] := by
 refine (callsIn_wide (n := 6)).1 ?_
 refine callsIn_of_wp_marks Tryz.func28 rfl trivial ?_ rfl
 simp only [Tryz.ntmps28, List.size_toArray, List.length_cons, List.length_nil, Nat.reduceAdd, Nat.reduceSub, Array.replicate_succ, Array.replicate_zero, List.push_toArray, List.append_toArray, List.nil_append, List.cons_append]
 gi_wp2_with fail
 refine ⟨trivial, ?_⟩
 refine (callsIn_wide.2 (sall_calls _ _)).mono ?_
 rintro e w4 ⟨rfl, hw4⟩
 have b0 := (((Blk.new w 26 [.slice (some ⟨gb, go, none⟩) 20 c]).alloc (.cells (List.replicate 9 (.int .i32 0)).toArray 65)).alloc (.cells (List.replicate 9 (.int .i32 0)).toArray 65)).alloc (.cells #[.pointer (some ⟨w.heap.size + 1 + 1, 0, none⟩)] 99)
 have b1 := ((Blk.new (w.alloc (.cells #[.slice (some ⟨gb, go, none⟩) 20 c] 26)) 65 (List.replicate 9 (.int .i32 0))).alloc (.cells (List.replicate 9 (.int .i32 0)).toArray 65)).alloc (.cells #[.pointer (some ⟨w.heap.size + 1 + 1, 0, none⟩)] 99)
 have b2 := (Blk.new ((w.alloc (.cells #[.slice (some ⟨gb, go, none⟩) 20 c] 26)).alloc (.cells (List.replicate 9 (.int .i32 0)).toArray 65)) 65 (List.replicate 9 (.int .i32 0))).alloc (.cells #[.pointer (some ⟨w.heap.size + 1 + 1, 0, none⟩)] 99)
 have b3 := Blk.new (((w.alloc (.cells #[.slice (some ⟨gb, go, none⟩) 20 c] 26)).alloc (.cells (List.replicate 9 (.int .i32 0)).toArray 65)).alloc (.cells (List.replicate 9 (.int .i32 0)).toArray 65)) 99 [.pointer (some ⟨w.heap.size + 1 + 1, 0, none⟩)]
 have hB4 : Below w.heap.size w ((((w.alloc (.cells #[.slice (some ⟨gb, go, none⟩) 20 c] 26)).alloc (.cells (List.replicate 9 (.int .i32 0)).toArray 65)).alloc (.cells (List.replicate 9 (.int .i32 0)).toArray 65)).alloc (.cells #[.pointer (some ⟨w.heap.size + 1 + 1, 0, none⟩)] 99)) := ((((Below.refl _ w).alloc (Nat.le_refl _) _).alloc (by simp) _).alloc (by simp; omega) _).alloc (by simp; omega) _
 have hs4 : ((((w.alloc (.cells #[.slice (some ⟨gb, go, none⟩) 20 c] 26)).alloc (.cells (List.replicate 9 (.int .i32 0)).toArray 65)).alloc (.cells (List.replicate 9 (.int .i32 0)).toArray 65)).alloc (.cells #[.pointer (some ⟨w.heap.size + 1 + 1, 0, none⟩)] 99)).heap.size = w.heap.size + 4 := by simp
 replace hw4 : w4 = ((((w.alloc (.cells #[.slice (some ⟨gb, go, none⟩) 20 c] 26)).alloc (.cells (List.replicate 9 (.int .i32 0)).toArray 65)).alloc (.cells (List.replicate 9 (.int .i32 0)).toArray 65)).alloc (.cells #[.pointer (some ⟨w.heap.size + 1 + 1, 0, none⟩)] 99)) := hw4
 rw [← hw4] at b0 b1 b2 b3 hB4 hs4
 clear hw4
 simp only [size_alloc] at b0 b1 b2 b3
 gi_wp2_with fail
 generalize hB1 : w.heap.size + 1 = B1 at *
 generalize hB2 : B1 + 1 = B2 at *
 generalize hB3 : B2 + 1 = B3 at *
 have hgb : gb < w.heap.size := (hv.at_ (u8s_atD xs 0 (by omega))).elim fun b h => by
  obtain ⟨o, e, _, h⟩ := h
  injection e with e
  injection e with e
  omega
 let pv : Nat → Int := fun i => pairI (xI xs (2 * i)) (xI xs (2 * i + 1))
 refine wpIn_rangeFunc_ownF rfl (by decide) (gf := 85) (lb := #[.pointer (some ⟨B3, 0, none⟩)]) rfl trivial (enters_of Tryz.func85 (by kernel_rfl) rfl)
  (sall_stops (6 - 1) B3 B2 (by decide) w4 (b3.cell' rfl)) (fun _ _ => trivial) (fun _ _ _ _ _ _ _ _ => trivial) (Below.refl _ _) (fun _ => rfl)
  (fun pre W => (Blk W w.heap.size 26 [.slice (some ⟨gb, go, none⟩) 20 c] ∧ Blk W B1 65 (List.replicate 9 (.int .i32 0)) ∧ Blk W B2 65 (cellsOf pv pre)) ∧ Below w.heap.size w W)
  (fun _ _ _ => False)
  (OwnFrom.and (Own.from (fun s A B row hs hg hr => ⟨blk_own _ _ (fun _ => _) s A B row hs.1 hg hr, blk_own _ _ (fun _ => _) s A B row hs.2.1 hg hr, blk_own _ _ (fun s => cellsOf pv s) s A B row hs.2.2 hg hr⟩) _) (ownFrom_below (Nat.le_refl _) (by omega)))
  (fun _ _ _ _ _ hs _ _ => hs)
  ⟨⟨b0, b1, b2⟩, hB4⟩
  (fun x => { tmps := #[.slice (some ⟨gb, go, none⟩) 20 c, .pointer (some ⟨w.heap.size, 0, none⟩), .pointer (some ⟨B1, 0, none⟩), .bool false, .int .i64 0, .pointer (some ⟨B2, 0, none⟩), .int .i64 (x.val : Int), .pointer (some ⟨B2, x.val, none⟩), undef, undef, .bool false, .slice (some ⟨gb, go, none⟩) 20 c, .int .i64 20, .bool false, undef, .bool false, .slice (some ⟨gb, go, none⟩) 20 c, .int .i64 20, .bool false, undef, .func (.func 85) #[] #[.pointer (some ⟨B3, 0, none⟩)], .int .i64 (x.val : Int), .pointer (some ⟨B2, x.val, none⟩), undef, undef, undef, undef, undef, undef, undef, undef, undef, undef, undef, undef, undef, undef, undef, undef, undef, undef, undef, undef, undef, undef], defers := [] }) ?assign ?body ?done ?stop
 case assign =>
  intro l x W K hK
  unfold encP
  gi_wp2
  exact hK
 case body =>
  rintro l pre ⟨k, hk⟩ W ⟨⟨c0, c1, c2⟩, hB⟩ _
  have hvW := hv.below hB
  have q0 := hvW.at_ (u8s_atD xs (2 * k) (by omega))
  have q1 := hvW.at_ (u8s_atD xs (2 * k + 1) (by omega))
  obtain ⟨_, _, hq, d0, _⟩ := q0
  injection hq with hq
  injection hq with hq hq'
  subst hq hq'
  obtain ⟨_, _, hq, d1, _⟩ := q1
  injection hq with hq
  injection hq with hq hq'
  subst hq hq'
  have m0 := c0.cell' (i := 0) rfl
  have hlen := cellsOf_len pv pre
  have mk := c2.cell' (i := k) (v := (cellsOf pv pre)[k]) (List.getElem?_eq_getElem (by omega))
  have fk := c2.frozen k
  have e1 : wrap64 (2 * (k : Int)) = ((2 * k : Nat) : Int) := by unfold wrap64; omega
  have e1' : IntKind.i64.wrap (2 * (k : Int)) = ((2 * k : Nat) : Int) := by rw [IntKind.wrap_i64]; omega
  have e2 : wrap64 (((2 * k : Nat) : Int) + 1) = ((2 * k + 1 : Nat) : Int) := by unfold wrap64; omega
  have e2' : IntKind.i64.wrap (((2 * k : Nat) : Int) + 1) = ((2 * k + 1 : Nat) : Int) := by rw [IntKind.wrap_i64]; omega
  have y0 := hx_get hx (2 * k)
  have y1 := hx_get hx (2 * k + 1)
  have HP := fun w => hide (ppair_calls (xI xs (2 * k)) (xI xs (2 * k + 1)) y0 y1 w)
  have hpv : pv k = pairI (xI xs (2 * k)) (xI xs (2 * k + 1)) := rfl
  rw [← hpv] at HP
  have hs := cellsOf_snoc pv pre ⟨k, hk⟩
  change W.cell? _ = some (.int .u8 (xI xs (2 * k))) at d0
  change W.cell? _ = some (.int .u8 (xI xs (2 * k + 1))) at d1
  generalize pv k = P at *
  generalize xI xs (2 * k) = X0 at *
  generalize xI xs (2 * k + 1) = X1 at *
  generalize (cellsOf pv pre)[k] = old at *
  have hmix : Tryz.prog.follows .mixedOrders = true := by kernel_rfl
  gi_wp2_with fail
  refine Xi.region_in hmix (RJ W w.heap.size gb go c k B2 X0 X1 P) (Xi.back_of (by kernel_rfl)) (Xi.plain_of (by kernel_rfl)) ?step ?fin ?start
  case start => exact ⟨rfl, fun i hi h => (by cases h), rfl, rfl, rfl, fun _ => (Chg.refl W []).drew, fun h => (by cases h)⟩
  case fin =>
   intro L a w1 hall hJ
   obtain ⟨⟨w0, hc, rfl⟩, _⟩ := hJ.we (hall 14 (by decide))
   have hsz := hc.size
   refine ⟨⟨by simpa using hsz, fun i o hi ho => ?_⟩, trivial, ⟨?_, ?_, ?_⟩, ?_⟩
   · have hne : i ≠ B2 := fun e => by
      subst e
      rw [show W.heap[i]? = _ from c2] at hi
      injection hi with hi
      subst hi
      simp [Obj.isCells] at ho
     exact (heap_setCell_far w0 _ _ i hne).trans (hc.heap hi (by simp))
   · exact (c0.chg hc (by simp)).far (p := ⟨B2, k, none⟩) (by show w.heap.size ≠ B2; omega) _
   · exact (c1.chg hc (by simp)).far (p := ⟨B2, k, none⟩) (by show B1 ≠ B2; omega) _
   · have := (c2.chg hc (by simp)).set_ k (.int .i32 P)
     rw [← hs] at this
     exact this
   · exact (hc.below hB (Nat.le_refl _) (by simp)).setCell (p := ⟨B2, k, none⟩) (by show w.heap.size ≤ B2; omega) _
  case step =>
   intro L a w1 i o K hdn hJ ho hL hpre hK
   match i, ho with
   | 0, ho =>
    injection ho with ho
    subst ho
    obtain ⟨hc, h14⟩ := hJ.early (i := 0) (by omega) hL
    have pb := hJ.t7
    refine step_val (v := vlR gb go c k B2 X0 X1 P 0) (w' := w1) ?_ (hK _ _ (hJ.put (i := 0) (by omega) hL hc))
    go_simp
    rfl
   | 1, ho =>
    injection ho with ho
    subst ho
    obtain ⟨hc, h14⟩ := hJ.early (i := 1) (by omega) hL
    have pb := hJ.t1
    have n0 := hc.cell m0 (by simp)
    refine step_val (v := vlR gb go c k B2 X0 X1 P 1) (w' := w1) ?_ (hK _ _ (hJ.put (i := 1) (by omega) hL hc))
    go_simp
    rfl
   | 2, ho =>
    injection ho with ho
    subst ho
    obtain ⟨hc, h14⟩ := hJ.early (i := 2) (by omega) hL
    have pb := hJ.t6
    refine step_val (v := vlR gb go c k B2 X0 X1 P 2) (w' := w1) ?_ (hK _ _ (hJ.put (i := 2) (by omega) hL hc))
    go_simp
    rfl
   | 3, ho =>
    injection ho with ho
    subst ho
    obtain ⟨hc, h14⟩ := hJ.early (i := 3) (by omega) hL
    have p2 := hJ.v 2 (by omega) (hpre ⟨2, .data⟩ (by simp) rfl)
    simp only [vlR, Nat.reduceAdd] at p2
    refine step_val (v := vlR gb go c k B2 X0 X1 P 3) (w' := w1) ?_ (hK _ _ (hJ.put (i := 3) (by omega) hL hc))
    go_simp
    rfl
   | 4, ho =>
    injection ho with ho
    subst ho
    obtain ⟨hc, h14⟩ := hJ.early (i := 4) (by omega) hL
    have p1 := hJ.v 1 (by omega) (hpre ⟨1, .data⟩ (by simp) rfl)
    simp only [vlR, Nat.reduceAdd] at p1
    have p3 := hJ.v 3 (by omega) (hpre ⟨3, .data⟩ (by simp) rfl)
    simp only [vlR, Nat.reduceAdd] at p3
    refine step_val (v := vlR gb go c k B2 X0 X1 P 4) (w' := w1) ?_ (hK _ _ (hJ.put (i := 4) (by omega) hL hc))
    go_simp
    rw [if_pos (by omega), show (2 * (k : Int)).toNat = 2 * k by omega]
    rfl
   | 5, ho =>
    injection ho with ho
    subst ho
    obtain ⟨hc, h14⟩ := hJ.early (i := 5) (by omega) hL
    have p4 := hJ.v 4 (by omega) (hpre ⟨4, .data⟩ (by simp) rfl)
    simp only [vlR, Nat.reduceAdd] at p4
    have n0 := hc.cell d0 (by simp)
    refine step_val (v := vlR gb go c k B2 X0 X1 P 5) (w' := w1) ?_ (hK _ _ (hJ.put (i := 5) (by omega) hL hc))
    go_simp
    rfl
   | 6, ho =>
    injection ho with ho
    subst ho
    obtain ⟨hc, h14⟩ := hJ.early (i := 6) (by omega) hL
    have pb := hJ.t1
    have n0 := hc.cell m0 (by simp)
    refine step_val (v := vlR gb go c k B2 X0 X1 P 6) (w' := w1) ?_ (hK _ _ (hJ.put (i := 6) (by omega) hL hc))
    go_simp
    rfl
   | 7, ho =>
    injection ho with ho
    subst ho
    obtain ⟨hc, h14⟩ := hJ.early (i := 7) (by omega) hL
    have pb := hJ.t6
    refine step_val (v := vlR gb go c k B2 X0 X1 P 7) (w' := w1) ?_ (hK _ _ (hJ.put (i := 7) (by omega) hL hc))
    go_simp
    rfl
   | 8, ho =>
    injection ho with ho
    subst ho
    obtain ⟨hc, h14⟩ := hJ.early (i := 8) (by omega) hL
    have p7 := hJ.v 7 (by omega) (hpre ⟨7, .data⟩ (by simp) rfl)
    simp only [vlR, Nat.reduceAdd] at p7
    refine step_val (v := vlR gb go c k B2 X0 X1 P 8) (w' := w1) ?_ (hK _ _ (hJ.put (i := 8) (by omega) hL hc))
    go_simp
    rfl
   | 9, ho =>
    injection ho with ho
    subst ho
    obtain ⟨hc, h14⟩ := hJ.early (i := 9) (by omega) hL
    have p8 := hJ.v 8 (by omega) (hpre ⟨8, .data⟩ (by simp) rfl)
    simp only [vlR, Nat.reduceAdd] at p8
    refine step_val (v := vlR gb go c k B2 X0 X1 P 9) (w' := w1) ?_ (hK _ _ (hJ.put (i := 9) (by omega) hL hc))
    go_simp
    rw [show IntKind.i64.wrap (2 * (k : Int) + 1) = ((2 * k + 1 : Nat) : Int) from e2']
    rfl
   | 10, ho =>
    injection ho with ho
    subst ho
    obtain ⟨hc, h14⟩ := hJ.early (i := 10) (by omega) hL
    have p6 := hJ.v 6 (by omega) (hpre ⟨6, .data⟩ (by simp) rfl)
    simp only [vlR, Nat.reduceAdd] at p6
    have p9 := hJ.v 9 (by omega) (hpre ⟨9, .data⟩ (by simp) rfl)
    simp only [vlR, Nat.reduceAdd] at p9
    refine step_val (v := vlR gb go c k B2 X0 X1 P 10) (w' := w1) ?_ (hK _ _ (hJ.put (i := 10) (by omega) hL hc))
    go_simp
    rw [if_pos (by omega), show (2 * (k : Int) + 1).toNat = 2 * k + 1 by omega]
    rfl
   | 11, ho =>
    injection ho with ho
    subst ho
    obtain ⟨hc, h14⟩ := hJ.early (i := 11) (by omega) hL
    have p10 := hJ.v 10 (by omega) (hpre ⟨10, .data⟩ (by simp) rfl)
    simp only [vlR, Nat.reduceAdd] at p10
    have n0 := hc.cell d1 (by simp)
    refine step_val (v := vlR gb go c k B2 X0 X1 P 11) (w' := w1) ?_ (hK _ _ (hJ.put (i := 11) (by omega) hL hc))
    go_simp
    rfl
   | 12, ho =>
    injection ho with ho
    subst ho
    obtain ⟨hc, h14⟩ := hJ.early (i := 12) (by omega) hL
    have p5 := hJ.v 5 (by omega) (hpre ⟨5, .data⟩ (by simp) rfl)
    simp only [vlR, Nat.reduceAdd] at p5
    have p11 := hJ.v 11 (by omega) (hpre ⟨11, .data⟩ (by simp) rfl)
    simp only [vlR, Nat.reduceAdd] at p11
    refine step_call (f := 46) (args := #[.int .u8 X0, .int .u8 X1]) ?_ (HP w1).out ?_
    · go_simp
    · rintro e w2 ⟨rfl, hc2⟩
      exact ⟨_, rfl, hK _ _ (hJ.put (i := 12) (by omega) hL (hc.trans hc2 (D := []) (by simp)))⟩
   | 13, ho =>
    injection ho with ho
    subst ho
    obtain ⟨hc, h14⟩ := hJ.early (i := 13) (by omega) hL
    have p0 := hJ.v 0 (by omega) (hpre ⟨0, .data⟩ (by simp) rfl)
    simp only [vlR, Nat.reduceAdd] at p0
    refine step_val (v := vlR gb go c k B2 X0 X1 P 13) (w' := w1) ?_ (hK _ _ (hJ.put (i := 13) (by omega) hL hc))
    go_simp
    rfl
   | 14, ho =>
    injection ho with ho
    subst ho
    have p12 := hJ.v 12 (by omega) (hpre ⟨12, .data⟩ (by simp) rfl)
    simp only [vlR, Nat.reduceAdd] at p12
    have p13 := hJ.v 13 (by omega) (hpre ⟨13, .data⟩ (by simp) rfl)
    simp only [vlR, Nat.reduceAdd] at p13
    have hc := hJ.wd hL
    have n0 := hc.cell mk (by simp)
    have n1 := (hc.frozen (a := ⟨B2, k, none⟩) (World.block_lt_of_cell? W _ mk) (by simp)).trans fk
    refine step_skip (w' := w1.setCell ⟨B2, k, none⟩ (.int .i32 (pairI X0 X1))) ?_ (hK _ _ ?_)
    · go_simp
    · refine ⟨hJ.sz, fun i hi h => hJ.v i hi (by rw [if_neg (by omega)] at h; exact h), hJ.t1, hJ.t6, hJ.t7, fun h => ?_, fun _ => ⟨⟨w1, hc, by rw [hpv]⟩, fun i hi => ?_⟩⟩
      · simp at h
      · rw [if_neg (by omega)]
        have l13 := hpre ⟨13, .data⟩ (by simp) rfl
        have l12 := hpre ⟨12, .data⟩ (by simp) rfl
        have l0 := hdn 13 _ rfl l13 ⟨0, .data⟩ (by simp) rfl
        have l5 := hdn 12 _ rfl l12 ⟨5, .data⟩ (by simp) rfl
        have l11 := hdn 12 _ rfl l12 ⟨11, .data⟩ (by simp) rfl
        have l4 := hdn 5 _ rfl l5 ⟨4, .data⟩ (by simp) rfl
        have l10 := hdn 11 _ rfl l11 ⟨10, .data⟩ (by simp) rfl
        have l1 := hdn 4 _ rfl l4 ⟨1, .data⟩ (by simp) rfl
        have l3 := hdn 4 _ rfl l4 ⟨3, .data⟩ (by simp) rfl
        have l2 := hdn 3 _ rfl l3 ⟨2, .data⟩ (by simp) rfl
        have l6 := hdn 10 _ rfl l10 ⟨6, .data⟩ (by simp) rfl
        have l9 := hdn 10 _ rfl l10 ⟨9, .data⟩ (by simp) rfl
        have l8 := hdn 9 _ rfl l9 ⟨8, .data⟩ (by simp) rfl
        have l7 := hdn 8 _ rfl l8 ⟨7, .data⟩ (by simp) rfl
        rcases (by omega : i = 0 ∨ i = 1 ∨ i = 2 ∨ i = 3 ∨ i = 4 ∨ i = 5 ∨ i = 6 ∨ i = 7 ∨ i = 8 ∨ i = 9 ∨ i = 10 ∨ i = 11 ∨ i = 12 ∨ i = 13) with rfl | rfl | rfl | rfl | rfl | rfl | rfl | rfl | rfl | rfl | rfl | rfl | rfl | rfl <;> assumption
   | _ + 15, ho => cases ho
 case stop =>
  rintro D c pre W _ _ h _
  exact h.elim
 case done =>
  rintro D ys W hD rfl ⟨⟨c0, c1, c2⟩, hB⟩ hK
  rw [cellsOf_all] at c2
  have hvW := hv.below hB
  have hct := ht.lt
  have hFW : FTab W := Xi.FTab.of_heap ht (fun k hk => by simp at hk; subst hk; exact hB.block _ hct)
  have HO := crcOpen_calls xs 18 gb go c W (by omega) hx hvW (by omega) hFW
  have n0 := c0.cell' (i := 0) rfl
  gi_wp2_with fail
  refine ⟨trivial, ?_⟩
  refine (callsIn_wide.2 HO).mono ?_
  rintro e w5 ⟨hc5, y, rfl, hy⟩
  have k2 := c2.chg hc5 (by simp)
  have k1 : Blk w5 B1 65 [.int .i32 0, .int .i32 0, .int .i32 0, .int .i32 0, .int .i32 0, .int .i32 0, .int .i32 0, .int .i32 0, .int .i32 0] := c1.chg hc5 (by simp)
  have hK5 := hc5.heap hK (by simp)
  have hB5 := hc5.below hB (Nat.le_refl _) (by simp)
  have r0 := k2.cell' (i := 0) (v := .int .i32 (pv 0)) rfl
  have r1 := k2.cell' (i := 1) (v := .int .i32 (pv 1)) rfl
  have r2 := k2.cell' (i := 2) (v := .int .i32 (pv 2)) rfl
  have r3 := k2.cell' (i := 3) (v := .int .i32 (pv 3)) rfl
  have r4 := k2.cell' (i := 4) (v := .int .i32 (pv 4)) rfl
  have r5 := k2.cell' (i := 5) (v := .int .i32 (pv 5)) rfl
  have r6 := k2.cell' (i := 6) (v := .int .i32 (pv 6)) rfl
  have r7 := k2.cell' (i := 7) (v := .int .i32 (pv 7)) rfl
  have r8 := k2.cell' (i := 8) (v := .int .i32 (pv 8)) rfl
  have s0 := k1.cell' (i := 0) (v := .int .i32 0) rfl
  have f0 := k1.frozen 0
  have s1 := k1.cell' (i := 1) (v := .int .i32 0) rfl
  have f1 := k1.frozen 1
  have s2 := k1.cell' (i := 2) (v := .int .i32 0) rfl
  have f2 := k1.frozen 2
  have s3 := k1.cell' (i := 3) (v := .int .i32 0) rfl
  have f3 := k1.frozen 3
  have s4 := k1.cell' (i := 4) (v := .int .i32 0) rfl
  have f4 := k1.frozen 4
  have s5 := k1.cell' (i := 5) (v := .int .i32 0) rfl
  have f5 := k1.frozen 5
  have s6 := k1.cell' (i := 6) (v := .int .i32 0) rfl
  have f6 := k1.frozen 6
  have s7 := k1.cell' (i := 7) (v := .int .i32 0) rfl
  have f7 := k1.frozen 7
  have s8 := k1.cell' (i := 8) (v := .int .i32 0) rfl
  have f8 := k1.frozen 8
  have hpvs : (List.range 9).map (fun i => Value.int .i32 (pairI (xI xs (2 * i)) (xI xs (2 * i + 1)))) = [.int .i32 (pv 0), .int .i32 (pv 1), .int .i32 (pv 2), .int .i32 (pv 3), .int .i32 (pv 4), .int .i32 (pv 5), .int .i32 (pv 6), .int .i32 (pv 7), .int .i32 (pv 8)] := rfl
  have HS := hide hpvs
  clear hpvs n0 HO hFW hct hvW c0 c1 c2
  generalize pv 0 = P0 at *
  generalize pv 1 = P1 at *
  generalize pv 2 = P2 at *
  generalize pv 3 = P3 at *
  generalize pv 4 = P4 at *
  generalize pv 5 = P5 at *
  generalize pv 6 = P6 at *
  generalize pv 7 = P7 at *
  generalize pv 8 = P8 at *
  cases hsum : sumOk xs 18 with
  | true =>
   gi_wp2_with fail
   change bodyPostM _ _ _ _ _ _ _ (put9 w5 B1 (.int .i32 P0) (.int .i32 P1) (.int .i32 P2) (.int .i32 P3) (.int .i32 P4) (.int .i32 P5) (.int .i32 P6) (.int .i32 P7) (.int .i32 P8))
   have hcf := put9_chg w5 B1 (.int .i32 P0) (.int .i32 P1) (.int .i32 P2) (.int .i32 P3) (.int .i32 P4) (.int .i32 P5) (.int .i32 P6) (.int .i32 P7) (.int .i32 P8)
   have kf : Blk (put9 w5 B1 (.int .i32 P0) (.int .i32 P1) (.int .i32 P2) (.int .i32 P3) (.int .i32 P4) (.int .i32 P5) (.int .i32 P6) (.int .i32 P7) (.int .i32 P8)) B1 65 [.int .i32 P0, .int .i32 P1, .int .i32 P2, .int .i32 P3, .int .i32 P4, .int .i32 P5, .int .i32 P6, .int .i32 P7, .int .i32 P8] := put9_blk k1 (.int .i32 P0) (.int .i32 P1) (.int .i32 P2) (.int .i32 P3) (.int .i32 P4) (.int .i32 P5) (.int .i32 P6) (.int .i32 P7) (.int .i32 P8)
   generalize put9 w5 B1 (.int .i32 P0) (.int .i32 P1) (.int .i32 P2) (.int .i32 P3) (.int .i32 P4) (.int .i32 P5) (.int .i32 P6) (.int .i32 P7) (.int .i32 P8) = wf at *
   have hKf := hcf.heap hK5 (by simp; omega)
   have kp : Blk (wf.putObj D (.deferred none)) B1 65 [.int .i32 P0, .int .i32 P1, .int .i32 P2, .int .i32 P3, .int .i32 P4, .int .i32 P5, .int .i32 P6, .int .i32 P7, .int .i32 P8] := (World.putObj_heap_other (show B1 ≠ D by omega)).trans kf
   have z0 := kp.cell' (i := 0) (v := .int .i32 P0) rfl
   have z1 := kp.cell' (i := 1) (v := .int .i32 P1) rfl
   have z2 := kp.cell' (i := 2) (v := .int .i32 P2) rfl
   have z3 := kp.cell' (i := 3) (v := .int .i32 P3) rfl
   have z4 := kp.cell' (i := 4) (v := .int .i32 P4) rfl
   have z5 := kp.cell' (i := 5) (v := .int .i32 P5) rfl
   have z6 := kp.cell' (i := 6) (v := .int .i32 P6) rfl
   have z7 := kp.cell' (i := 7) (v := .int .i32 P7) rfl
   have z8 := kp.cell' (i := 8) (v := .int .i32 P8) rfl
   refine ⟨by simp, .inl ⟨_, _, rfl, run_takeDeferred hKf, ?_⟩⟩
   refine ⟨.tuple #[.agg #[.int .i32 P0, .int .i32 P1, .int .i32 P2, .int .i32 P3, .int .i32 P4, .int .i32 P5, .int .i32 P6, .int .i32 P7, .int .i32 P8], .bool true, .int .i64 0], ?_, ?_, ?_⟩
   · clear hcf hKf kp kf k1 k2 r0 r1 r2 r3 r4 r5 r6 r7 r8 s0 s1 s2 s3 s4 s5 s6 s7 s8 f0 f1 f2 f3 f4 f5 f6 f7 f8
     refine (results_ctt rfl _ _ _ (A := ⟨B1, 0, none⟩) rfl (v := .agg #[.int .i32 P0, .int .i32 P1, .int .i32 P2, .int .i32 P3, .int .i32 P4, .int .i32 P5, .int .i32 P6, .int .i32 P7, .int .i32 P8]) ?_).trans rfl
     go_simp
   · rw [hsum, HS.out]
   · refine Chg.of_below ((hcf.below hB5 ?_ ?_).trans (belowK_b (w := w4) (by omega) wf D _ _ hD hKf rfl rfl))
     · exact Nat.le_refl _
     · intro k hk
       simp at hk
       omega
  | false =>
   gi_wp2_with fail
   change bodyPostM _ _ _ _ _ _ _ (put9 w5 B1 (.int .i32 P0) (.int .i32 P1) (.int .i32 P2) (.int .i32 P3) (.int .i32 P4) (.int .i32 P5) (.int .i32 P6) (.int .i32 P7) (.int .i32 P8))
   have hcf := put9_chg w5 B1 (.int .i32 P0) (.int .i32 P1) (.int .i32 P2) (.int .i32 P3) (.int .i32 P4) (.int .i32 P5) (.int .i32 P6) (.int .i32 P7) (.int .i32 P8)
   have kf : Blk (put9 w5 B1 (.int .i32 P0) (.int .i32 P1) (.int .i32 P2) (.int .i32 P3) (.int .i32 P4) (.int .i32 P5) (.int .i32 P6) (.int .i32 P7) (.int .i32 P8)) B1 65 [.int .i32 P0, .int .i32 P1, .int .i32 P2, .int .i32 P3, .int .i32 P4, .int .i32 P5, .int .i32 P6, .int .i32 P7, .int .i32 P8] := put9_blk k1 (.int .i32 P0) (.int .i32 P1) (.int .i32 P2) (.int .i32 P3) (.int .i32 P4) (.int .i32 P5) (.int .i32 P6) (.int .i32 P7) (.int .i32 P8)
   generalize put9 w5 B1 (.int .i32 P0) (.int .i32 P1) (.int .i32 P2) (.int .i32 P3) (.int .i32 P4) (.int .i32 P5) (.int .i32 P6) (.int .i32 P7) (.int .i32 P8) = wf at *
   have hKf := hcf.heap hK5 (by simp; omega)
   have kp : Blk (wf.putObj D (.deferred none)) B1 65 [.int .i32 P0, .int .i32 P1, .int .i32 P2, .int .i32 P3, .int .i32 P4, .int .i32 P5, .int .i32 P6, .int .i32 P7, .int .i32 P8] := (World.putObj_heap_other (show B1 ≠ D by omega)).trans kf
   have z0 := kp.cell' (i := 0) (v := .int .i32 P0) rfl
   have z1 := kp.cell' (i := 1) (v := .int .i32 P1) rfl
   have z2 := kp.cell' (i := 2) (v := .int .i32 P2) rfl
   have z3 := kp.cell' (i := 3) (v := .int .i32 P3) rfl
   have z4 := kp.cell' (i := 4) (v := .int .i32 P4) rfl
   have z5 := kp.cell' (i := 5) (v := .int .i32 P5) rfl
   have z6 := kp.cell' (i := 6) (v := .int .i32 P6) rfl
   have z7 := kp.cell' (i := 7) (v := .int .i32 P7) rfl
   have z8 := kp.cell' (i := 8) (v := .int .i32 P8) rfl
   refine ⟨by simp, .inl ⟨_, _, rfl, run_takeDeferred hKf, ?_⟩⟩
   refine ⟨.tuple #[.agg #[.int .i32 P0, .int .i32 P1, .int .i32 P2, .int .i32 P3, .int .i32 P4, .int .i32 P5, .int .i32 P6, .int .i32 P7, .int .i32 P8], .bool false, .int .i64 0], ?_, ?_, ?_⟩
   · clear hcf hKf kp kf k1 k2 r0 r1 r2 r3 r4 r5 r6 r7 r8 s0 s1 s2 s3 s4 s5 s6 s7 s8 f0 f1 f2 f3 f4 f5 f6 f7 f8
     refine (results_ctt rfl _ _ _ (A := ⟨B1, 0, none⟩) rfl (v := .agg #[.int .i32 P0, .int .i32 P1, .int .i32 P2, .int .i32 P3, .int .i32 P4, .int .i32 P5, .int .i32 P6, .int .i32 P7, .int .i32 P8]) ?_).trans rfl
     go_simp
   · rw [hsum, HS.out]
   · refine Chg.of_below ((hcf.below hB5 ?_ ?_).trans (belowK_b (w := w4) (by omega) wf D _ _ hD hKf rfl rfl))
     · exact Nat.le_refl _
     · intro k hk
       simp at hk
       omega
end Go.Proofs.YtihgijhjhmjolaaGreatDoor

/- model.Feed of twenty bytes. -/
namespace Go.Proofs.YtihgijhjhmjolaaGreatDoor
open Go.RowKit Go.Deep Xi
set_option linter.unusedVariables false
theorem smp_eq (xs : List Nat) : (List.range 9).map (fun i => Value.int .i32 (pairI (xI xs (2 * i)) (xI xs (2 * i + 1)))) = (List.range 9).map (fun i => Value.int .i32 (smp (xI xs) i).v) := by
 have e : ∀ i, (smp (xI xs) i).v = pairI (xI xs (2 * i)) (xI xs (2 * i + 1)) := fun i => by
  unfold smp
  exact kW_v (by have := pairI_in (xI xs (2 * i)) (xI xs (2 * i + 1)); unfold In32; omega)
 simp only [e]
def smpV (B : Nat → Int) : Value := .agg #[.int .i32 (smp B 0).v, .int .i32 (smp B 1).v, .int .i32 (smp B 2).v, .int .i32 (smp B 3).v, .int .i32 (smp B 4).v, .int .i32 (smp B 5).v, .int .i32 (smp B 6).v, .int .i32 (smp B 7).v, .int .i32 (smp B 8).v]
theorem read_smp (xs : List Nat) (hl : xs.length = 20) (hx : ∀ x ∈ xs, x < 256) (gb go c : Nat) (w : World) (hv : Sl w (.slice (some ⟨gb, go, none⟩) 20 c) (u8s xs)) (ht : FTab w) :
 Calls Tryz.prog 28 #[.slice (some ⟨gb, go, none⟩) 20 c] w fun e w' => e = .returned (.tuple #[smpV (xI xs), .bool (sumOk xs 18), .int .i64 0]) ∧ Chg w w' [] := by
 have h := read_calls xs hl hx gb go c w hv ht
 rw [smp_eq] at h
 exact h
theorem nextK_eq (a b c d : Wd) (B : Nat → Int) : nextK a b c d B = sensedW a b c d (smp B 0) (smp B 1) (smp B 2) (smp B 3) (smp B 4) (smp B 5) (smp B 6) (smp B 7) (smp B 8) := by unfold nextK; simp only [kW_self]
theorem next_smp (a b c d : Wd) (B : Nat → Int) (w : World) : Calls Tryz.prog 29 #[.agg #[.int .i32 a.v, .int .i32 b.v, .int .i32 c.v, .int .i32 d.v], smpV B] w fun e w' => e = .returned (.tuple #[.agg #[.int .i32 (nextK a b c d B).a.v, .int .i32 (nextK a b c d B).b.v, .int .i32 (nextK a b c d B).c.v, .int .i32 (nextK a b c d B).d.v], .int .i64 (nextF B)]) ∧ Chg w w' [] := by
 rw [nextK_eq]
 exact next_calls a b c d (smp B 0) (smp B 1) (smp B 2) (smp B 3) (smp B 4) (smp B 5) (smp B 6) (smp B 7) (smp B 8) w
theorem prightO_ok (a b c d : Wd) {s f g : Int} (hs : in16 s) (hf : in16 f) (hg : in16 g) : ObOk Tryz.prog (rightO a b c d s f g true) := fun w => by
 have := pright_calls a b c d s f g (good_in7 (good_16 hs) (good_16 hf) (good_16 hg)) w
 rw [(rightB_iff s f g).2 ⟨hs, hf, hg⟩] at this
 exact this
theorem not_state {w : World} {B : Nat} {t : TypeId} {sv : Value} {l : List Nat} {x0 x1 x2 x3 x4 x5 x6 : Int} (hb : Blk w B t [.int .i32 x0, .int .i32 x1, .int .i32 x2, .int .i32 x3, .int .i64 x4, .int .i64 x5, .int .i64 x6]) (hs : Sl w sv (u8s l)) (h0 : 0 < (u8s l).length) :
 ∀ A n c, sv = .slice (some A) n c → A.block ∉ [B] := fun A n c he => by
 subst he
 rw [u8s_length] at h0
 obtain ⟨b, o, hA, hc, _⟩ := hs.at_ (u8s_atD l 0 h0)
 injection hA with hA
 subst hA
 simp only [List.mem_singleton]
 intro e
 subst e
 rw [Nat.add_zero, hb.cell] at hc
 match o, hc with
 | 0, hc => cases hc
 | 1, hc => cases hc
 | 2, hc => cases hc
 | 3, hc => cases hc
 | 4, hc => cases hc
 | 5, hc => cases hc
 | 6, hc => cases hc
 | _ + 7, hc => cases hc
def put7 (w5 : World) (B1 : Nat) (p0 p1 p2 p3 p4 p5 p6 : Value) : World := ((((((w5.setCell ⟨B1, 0, none⟩ p0).setCell ⟨B1, 1, none⟩ p1).setCell ⟨B1, 2, none⟩ p2).setCell ⟨B1, 3, none⟩ p3).setCell ⟨B1, 4, none⟩ p4).setCell ⟨B1, 5, none⟩ p5).setCell ⟨B1, 6, none⟩ p6
theorem put7_chg (w5 : World) (B1 : Nat) (p0 p1 p2 p3 p4 p5 p6 : Value) : Chg w5 (put7 w5 B1 p0 p1 p2 p3 p4 p5 p6) [B1] := (((((((Chg.refl w5 [B1]).setCell ⟨B1, 0, none⟩ p0 (.inl (by simp))).setCell ⟨B1, 1, none⟩ p1 (.inl (by simp))).setCell ⟨B1, 2, none⟩ p2 (.inl (by simp))).setCell ⟨B1, 3, none⟩ p3 (.inl (by simp))).setCell ⟨B1, 4, none⟩ p4 (.inl (by simp))).setCell ⟨B1, 5, none⟩ p5 (.inl (by simp))).setCell ⟨B1, 6, none⟩ p6 (.inl (by simp))
theorem put7_blk {w5 : World} {B1 : Nat} {t : TypeId} {z0 z1 z2 z3 z4 z5 z6 : Value} (k1 : Blk w5 B1 t [z0, z1, z2, z3, z4, z5, z6]) (p0 p1 p2 p3 p4 p5 p6 : Value) : Blk (put7 w5 B1 p0 p1 p2 p3 p4 p5 p6) B1 t [p0, p1, p2, p3, p4, p5, p6] := (((((((k1.set_ 0 p0)).set_ 1 p1).set_ 2 p2).set_ 3 p3).set_ 4 p4).set_ 5 p5).set_ 6 p6
def put4 (w5 : World) (B1 : Nat) (p0 p1 p2 p3 : Value) : World := (((w5.setCell ⟨B1, 0, none⟩ p0).setCell ⟨B1, 1, none⟩ p1).setCell ⟨B1, 2, none⟩ p2).setCell ⟨B1, 3, none⟩ p3
theorem put4_chg (w5 : World) (B1 : Nat) (p0 p1 p2 p3 : Value) : Chg w5 (put4 w5 B1 p0 p1 p2 p3) [B1] := ((((Chg.refl w5 [B1]).setCell ⟨B1, 0, none⟩ p0 (.inl (by simp))).setCell ⟨B1, 1, none⟩ p1 (.inl (by simp))).setCell ⟨B1, 2, none⟩ p2 (.inl (by simp))).setCell ⟨B1, 3, none⟩ p3 (.inl (by simp))
theorem put4_blk {w5 : World} {B1 : Nat} {t : TypeId} {z0 z1 z2 z3 z4 z5 z6 : Value} (k1 : Blk w5 B1 t [z0, z1, z2, z3, z4, z5, z6]) (p0 p1 p2 p3 : Value) : Blk (put4 w5 B1 p0 p1 p2 p3) B1 t [p0, p1, p2, p3, z4, z5, z6] := (((k1.set_ 0 p0).set_ 1 p1).set_ 2 p2).set_ 3 p3
theorem and16' {x : Int} : bits .and .i64 x 65535 = x % 65536 := bits_and_16' x
set_option maxRecDepth 100000 in
set_option maxHeartbeats 8000000 in
theorem pfeed_ok {x : St} (hr : x.right) {xs : List Nat} (hl : xs.length = 20) (hx : ∀ y ∈ xs, y < 256) (gb go c : Nat) (w : World) (hw : FTab w) (hv : Sl w (.slice (some ⟨gb, go, none⟩) 20 c) (u8s xs)) :
 Calls Tryz.prog 10 #[x.val, .slice (some ⟨gb, go, none⟩) 20 c] w fun e w' => feedP w x xs e w' := by
 obtain ⟨h1, h2, h3⟩ := hr
 have hgs := good_in7 (a := x.q.a) (b := x.q.b) (c := x.q.c) (d := x.q.d) (good_16 h1) (good_16 h2) (good_16 h3)
 have HR := fun w => hide (pright_calls x.q.a x.q.b x.q.c x.q.d x.s x.f x.g hgs w)
 rw [(rightB_iff x.s x.f x.g).2 ⟨h1, h2, h3⟩] at HR
 have HV := hide hv
 have HW := hide hw
 show Calls Tryz.prog 10 #[stV x.q.a x.q.b x.q.c x.q.d x.s x.f x.g, .slice (some ⟨gb, go, none⟩) 20 c] w fun e w' => feedP w x xs e w'
 unfold stV at *
 clear hv hw hgs
 have b0 := (Blk.new w 25 [.int .i32 x.q.a.v, .int .i32 x.q.b.v, .int .i32 x.q.c.v, .int .i32 x.q.d.v, .int .i64 x.s, .int .i64 x.f, .int .i64 x.g]).alloc (.cells #[.int .i32 0, .int .i32 0, .int .i32 0, .int .i32 0, .int .i64 0, .int .i64 0, .int .i64 0] 25)
 have b1 := Blk.new (w.alloc (.cells #[.int .i32 x.q.a.v, .int .i32 x.q.b.v, .int .i32 x.q.c.v, .int .i32 x.q.d.v, .int .i64 x.s, .int .i64 x.f, .int .i64 x.g] 25)) 25 [.int .i32 0, .int .i32 0, .int .i32 0, .int .i32 0, .int .i64 0, .int .i64 0, .int .i64 0]
 simp only [size_alloc] at b1
 have hc := ((Chg.refl w []).alloc (.cells #[.int .i32 x.q.a.v, .int .i32 x.q.b.v, .int .i32 x.q.c.v, .int .i32 x.q.d.v, .int .i64 x.s, .int .i64 x.f, .int .i64 x.g] 25)).alloc (.cells #[.int .i32 0, .int .i32 0, .int .i32 0, .int .i32 0, .int .i64 0, .int .i64 0, .int .i64 0] 25)
 go_enter Tryz.func10, Tryz.ntmps10
 go_wp2_with fail
 refine (HR _).out.mono ?_
 rintro e w3 ⟨rfl, hc3⟩
 replace hc := hc.trans hc3 (D := []) (by simp)
 replace b0 := b0.chg hc3 (by simp)
 replace b1 := b1.chg hc3 (by simp)
 clear hc3
 have uc0 := b0.cell' (i := 0) rfl
 have uf0 := b0.frozen 0
 have uc1 := b0.cell' (i := 1) rfl
 have uf1 := b0.frozen 1
 have uc2 := b0.cell' (i := 2) rfl
 have uf2 := b0.frozen 2
 have uc3 := b0.cell' (i := 3) rfl
 have uf3 := b0.frozen 3
 have uc4 := b0.cell' (i := 4) rfl
 have uf4 := b0.frozen 4
 have uc5 := b0.cell' (i := 5) rfl
 have uf5 := b0.frozen 5
 have uc6 := b0.cell' (i := 6) rfl
 have uf6 := b0.frozen 6
 go_wp2_with fail
 refine (read_smp xs hl hx gb go c w3 (HV.out.keep hc) (HW.out.chg hc (by simp))).mono ?_
 unfold smpV
 rintro e w4 ⟨rfl, hc4⟩
 replace hc := hc.trans hc4 (D := []) (by simp)
 replace b0 := b0.chg hc4 (by simp)
 replace b1 := b1.chg hc4 (by simp)
 clear hc4
 clear uc0 uf0 uc1 uf1 uc2 uf2 uc3 uf3 uc4 uf4 uc5 uf5 uc6 uf6
 have uc0 := b0.cell' (i := 0) rfl
 have uf0 := b0.frozen 0
 have uc1 := b0.cell' (i := 1) rfl
 have uf1 := b0.frozen 1
 have uc2 := b0.cell' (i := 2) rfl
 have uf2 := b0.frozen 2
 have uc3 := b0.cell' (i := 3) rfl
 have uf3 := b0.frozen 3
 have uc4 := b0.cell' (i := 4) rfl
 have uf4 := b0.frozen 4
 have uc5 := b0.cell' (i := 5) rfl
 have uf5 := b0.frozen 5
 have uc6 := b0.cell' (i := 6) rfl
 have uf6 := b0.frozen 6
 have hw4 := hc.size
 go_upto_region 6 with (fail)
 have k5 := Blk.new w4 65 [.int .i32 (smp (xI xs) 0).v, .int .i32 (smp (xI xs) 1).v, .int .i32 (smp (xI xs) 2).v, .int .i32 (smp (xI xs) 3).v, .int .i32 (smp (xI xs) 4).v, .int .i32 (smp (xI xs) 5).v, .int .i32 (smp (xI xs) 6).v, .int .i32 (smp (xI xs) 7).v, .int .i32 (smp (xI xs) 8).v]
 replace b0 := b0.alloc (.cells #[.int .i32 (smp (xI xs) 0).v, .int .i32 (smp (xI xs) 1).v, .int .i32 (smp (xI xs) 2).v, .int .i32 (smp (xI xs) 3).v, .int .i32 (smp (xI xs) 4).v, .int .i32 (smp (xI xs) 5).v, .int .i32 (smp (xI xs) 6).v, .int .i32 (smp (xI xs) 7).v, .int .i32 (smp (xI xs) 8).v] 65)
 have hne : w4.heap.size ≠ w.heap.size := by have := b1.lt; omega
 replace b1 := b1.alloc (.cells #[.int .i32 (smp (xI xs) 0).v, .int .i32 (smp (xI xs) 1).v, .int .i32 (smp (xI xs) 2).v, .int .i32 (smp (xI xs) 3).v, .int .i32 (smp (xI xs) 4).v, .int .i32 (smp (xI xs) 5).v, .int .i32 (smp (xI xs) 6).v, .int .i32 (smp (xI xs) 7).v, .int .i32 (smp (xI xs) 8).v] 65)
 replace hc := hc.alloc (.cells #[.int .i32 (smp (xI xs) 0).v, .int .i32 (smp (xI xs) 1).v, .int .i32 (smp (xI xs) 2).v, .int .i32 (smp (xI xs) 3).v, .int .i32 (smp (xI xs) 4).v, .int .i32 (smp (xI xs) 5).v, .int .i32 (smp (xI xs) 6).v, .int .i32 (smp (xI xs) 7).v, .int .i32 (smp (xI xs) 8).v] 65)
 clear uc0 uf0 uc1 uf1 uc2 uf2 uc3 uf3 uc4 uf4 uc5 uf5 uc6 uf6
 generalize (w4.alloc (.cells #[.int .i32 (smp (xI xs) 0).v, .int .i32 (smp (xI xs) 1).v, .int .i32 (smp (xI xs) 2).v, .int .i32 (smp (xI xs) 3).v, .int .i32 (smp (xI xs) 4).v, .int .i32 (smp (xI xs) 5).v, .int .i32 (smp (xI xs) 6).v, .int .i32 (smp (xI xs) 7).v, .int .i32 (smp (xI xs) 8).v] 65)) = w5 at *
 generalize w4.heap.size = N4 at *
 have uc0 := b0.cell' (i := 0) rfl
 have uf0 := b0.frozen 0
 have uc1 := b0.cell' (i := 1) rfl
 have uf1 := b0.frozen 1
 have uc2 := b0.cell' (i := 2) rfl
 have uf2 := b0.frozen 2
 have uc3 := b0.cell' (i := 3) rfl
 have uf3 := b0.frozen 3
 have uc4 := b0.cell' (i := 4) rfl
 have uf4 := b0.frozen 4
 have uc5 := b0.cell' (i := 5) rfl
 have uf5 := b0.frozen 5
 have uc6 := b0.cell' (i := 6) rfl
 have uf6 := b0.frozen 6
 have e1 : wrap64 (x.s + 1) = x.s + 1 := by unfold in16 at h1; unfold wrap64; omega
 have e2 : bits BinOp.and IntKind.i64 (x.s + 1) 65535 = (x.s + 1) % 65536 := and16'
 have hi := inc16 h1
 have hnext : x.next xs = bif sumOk xs 18 then ⟨nextK x.q.a x.q.b x.q.c x.q.d (xI xs), (x.s + 1) % 65536, x.f, (x.g + 1) % 65536⟩ else ⟨x.q, (x.s + 1) % 65536, min (x.f + 1) 65535, x.g⟩ := rfl
 have HN := hide hnext
 clear hnext
 have hfl : flN xs = bif sumOk xs 18 then nextF (xI xs) else 1 := rfl
 have HF := hide hfl
 clear hfl
 generalize (x.s + 1) % 65536 = S at *
 go_upto_region 8 with (fail)
 have b2 : Blk (w5.setCell ⟨w.heap.size, 4, none⟩ (.int .i64 S)) w.heap.size 25 [.int .i32 x.q.a.v, .int .i32 x.q.b.v, .int .i32 x.q.c.v, .int .i32 x.q.d.v, .int .i64 S, .int .i64 x.f, .int .i64 x.g] := b0.set_ 4 _
 replace b1 := b1.far (p := ⟨w.heap.size, 4, none⟩) (by show w.heap.size + 1 ≠ w.heap.size; omega) (.int .i64 S)
 replace k5 := k5.far (p := ⟨w.heap.size, 4, none⟩) hne (.int .i64 S)
 replace hc := hc.setCell ⟨w.heap.size, 4, none⟩ (.int .i64 S) (.inr (Nat.le_refl _))
 clear uc0 uf0 uc1 uf1 uc2 uf2 uc3 uf3 uc4 uf4 uc5 uf5 uc6 uf6
 clear b0 e1 e2
 generalize (w5.setCell ⟨w.heap.size, 4, none⟩ (.int .i64 S)) = w6 at *
 have uc0 := b2.cell' (i := 0) rfl
 have uf0 := b2.frozen 0
 have uc1 := b2.cell' (i := 1) rfl
 have uf1 := b2.frozen 1
 have uc2 := b2.cell' (i := 2) rfl
 have uf2 := b2.frozen 2
 have uc3 := b2.cell' (i := 3) rfl
 have uf3 := b2.frozen 3
 have uc4 := b2.cell' (i := 4) rfl
 have uf4 := b2.frozen 4
 have uc5 := b2.cell' (i := 5) rfl
 have uf5 := b2.frozen 5
 have uc6 := b2.cell' (i := 6) rfl
 have uf6 := b2.frozen 6
 have kc0 := k5.cell' (i := 0) rfl
 have kc1 := k5.cell' (i := 1) rfl
 have kc2 := k5.cell' (i := 2) rfl
 have kc3 := k5.cell' (i := 3) rfl
 have kc4 := k5.cell' (i := 4) rfl
 have kc5 := k5.cell' (i := 5) rfl
 have kc6 := k5.cell' (i := 6) rfl
 have kc7 := k5.cell' (i := 7) rfl
 have kc8 := k5.cell' (i := 8) rfl
 cases hs : sumOk xs 18 with
 | true =>
  rw [hs] at HN HF
  have hj := inc16 h3
  have e1 : wrap64 (x.g + 1) = x.g + 1 := by unfold in16 at h3; unfold wrap64; omega
  have e2 : bits BinOp.and IntKind.i64 (x.g + 1) 65535 = (x.g + 1) % 65536 := and16'
  generalize (x.g + 1) % 65536 = G at *
  go_upto_region 10 with (fail)
  have b3 : Blk (w6.setCell ⟨w.heap.size, 6, none⟩ (.int .i64 G)) w.heap.size 25 [.int .i32 x.q.a.v, .int .i32 x.q.b.v, .int .i32 x.q.c.v, .int .i32 x.q.d.v, .int .i64 S, .int .i64 x.f, .int .i64 G] := b2.set_ 6 _
  replace b1 := b1.far (p := ⟨w.heap.size, 6, none⟩) (by show w.heap.size + 1 ≠ w.heap.size; omega) (.int .i64 G)
  replace k5 := k5.far (p := ⟨w.heap.size, 6, none⟩) hne (.int .i64 G)
  replace hc := hc.setCell ⟨w.heap.size, 6, none⟩ (.int .i64 G) (.inr (Nat.le_refl _))
  clear uc0 uf0 uc1 uf1 uc2 uf2 uc3 uf3 uc4 uf4 uc5 uf5 uc6 uf6
  clear kc0 kc1 kc2 kc3 kc4 kc5 kc6 kc7 kc8
  clear b2 e1 e2
  generalize (w6.setCell ⟨w.heap.size, 6, none⟩ (.int .i64 G)) = w7 at *
  have vc0 := b3.cell' (i := 0) rfl
  have vf0 := b3.frozen 0
  have vc1 := b3.cell' (i := 1) rfl
  have vf1 := b3.frozen 1
  have vc2 := b3.cell' (i := 2) rfl
  have vf2 := b3.frozen 2
  have vc3 := b3.cell' (i := 3) rfl
  have vf3 := b3.frozen 3
  have vc4 := b3.cell' (i := 4) rfl
  have vf4 := b3.frozen 4
  have vc5 := b3.cell' (i := 5) rfl
  have vf5 := b3.frozen 5
  have vc6 := b3.cell' (i := 6) rfl
  have vf6 := b3.frozen 6
  have kc0 := k5.cell' (i := 0) rfl
  have kc1 := k5.cell' (i := 1) rfl
  have kc2 := k5.cell' (i := 2) rfl
  have kc3 := k5.cell' (i := 3) rfl
  have kc4 := k5.cell' (i := 4) rfl
  have kc5 := k5.cell' (i := 5) rfl
  have kc6 := k5.cell' (i := 6) rfl
  have kc7 := k5.cell' (i := 7) rfl
  have kc8 := k5.cell' (i := 8) rfl
  go_wp2_with fail
  refine (next_smp x.q.a x.q.b x.q.c x.q.d (xI xs) w7).mono ?_
  rintro e w7' ⟨rfl, hc7⟩
  replace hc := hc.trans hc7 (D := []) (by simp)
  replace b3 := b3.chg hc7 (by simp)
  replace b1 := b1.chg hc7 (by simp)
  have hFL := nextF_in (xI xs)
  generalize nextF (xI xs) = fl at *
  generalize nextK x.q.a x.q.b x.q.c x.q.d (xI xs) = q at *
  clear vc0 vf0 vc1 vf1 vc2 vf2 vc3 vf3 vc4 vf4 vc5 vf5 vc6 vf6
  have vc0 := b3.cell' (i := 0) rfl
  have vf0 := b3.frozen 0
  have vc1 := b3.cell' (i := 1) rfl
  have vf1 := b3.frozen 1
  have vc2 := b3.cell' (i := 2) rfl
  have vf2 := b3.frozen 2
  have vc3 := b3.cell' (i := 3) rfl
  have vf3 := b3.frozen 3
  have vc4 := b3.cell' (i := 4) rfl
  have vf4 := b3.frozen 4
  have vc5 := b3.cell' (i := 5) rfl
  have vf5 := b3.frozen 5
  have vc6 := b3.cell' (i := 6) rfl
  have vf6 := b3.frozen 6
  go_upto_region 12 with (fail)
  change Code.wp _ _ _ _ (put4 w7' w.heap.size (.int .i32 q.a.v) (.int .i32 q.b.v) (.int .i32 q.c.v) (.int .i32 q.d.v))
  have hc8 := put4_chg w7' w.heap.size (.int .i32 q.a.v) (.int .i32 q.b.v) (.int .i32 q.c.v) (.int .i32 q.d.v)
  replace b3 := put4_blk b3 (.int .i32 q.a.v) (.int .i32 q.b.v) (.int .i32 q.c.v) (.int .i32 q.d.v)
  replace b1 := b1.chg hc8 (by simp)
  replace hc := hc.trans hc8 (D := []) (fun k hk => by simp at hk; omega)
  generalize (put4 w7' w.heap.size (.int .i32 q.a.v) (.int .i32 q.b.v) (.int .i32 q.c.v) (.int .i32 q.d.v)) = w8 at *
  clear vc0 vf0 vc1 vf1 vc2 vf2 vc3 vf3 vc4 vf4 vc5 vf5 vc6 vf6
  have vc0 := b3.cell' (i := 0) rfl
  have vf0 := b3.frozen 0
  have vc1 := b3.cell' (i := 1) rfl
  have vf1 := b3.frozen 1
  have vc2 := b3.cell' (i := 2) rfl
  have vf2 := b3.frozen 2
  have vc3 := b3.cell' (i := 3) rfl
  have vf3 := b3.frozen 3
  have vc4 := b3.cell' (i := 4) rfl
  have vf4 := b3.frozen 4
  have vc5 := b3.cell' (i := 5) rfl
  have vf5 := b3.frozen 5
  have vc6 := b3.cell' (i := 6) rfl
  have vf6 := b3.frozen 6
  go_wp2_with fail
  refine (tell_ok q.a q.b q.c q.d (s := S) (f := x.f) (g := G) (fl := fl) hi h2 hj hFL (prightO_ok _ _ _ _ hi h2 hj) w8 (HW.out.chg hc (by simp))).mono ?_
  rintro e w9 ⟨⟨sv, rfl, hsv⟩, hc9⟩
  replace hc := hc.trans hc9 (D := []) (by simp)
  replace b3 := b3.chg hc9 (by simp)
  have r1 := b1.chg hc9 (by simp)
  clear vc0 vf0 vc1 vf1 vc2 vf2 vc3 vf3 vc4 vf4 vc5 vf5 vc6 vf6
  have vc0 := b3.cell' (i := 0) rfl
  have vf0 := b3.frozen 0
  have vc1 := b3.cell' (i := 1) rfl
  have vf1 := b3.frozen 1
  have vc2 := b3.cell' (i := 2) rfl
  have vf2 := b3.frozen 2
  have vc3 := b3.cell' (i := 3) rfl
  have vf3 := b3.frozen 3
  have vc4 := b3.cell' (i := 4) rfl
  have vf4 := b3.frozen 4
  have vc5 := b3.cell' (i := 5) rfl
  have vf5 := b3.frozen 5
  have vc6 := b3.cell' (i := 6) rfl
  have vf6 := b3.frozen 6
  have rc0 := r1.cell' (i := 0) rfl
  have rf0 := r1.frozen 0
  have rc1 := r1.cell' (i := 1) rfl
  have rf1 := r1.frozen 1
  have rc2 := r1.cell' (i := 2) rfl
  have rf2 := r1.frozen 2
  have rc3 := r1.cell' (i := 3) rfl
  have rf3 := r1.frozen 3
  have rc4 := r1.cell' (i := 4) rfl
  have rf4 := r1.frozen 4
  have rc5 := r1.cell' (i := 5) rfl
  have rf5 := r1.frozen 5
  have rc6 := r1.cell' (i := 6) rfl
  have rf6 := r1.frozen 6
  go_wp2_with fail
  change bodyPost _ _ _ _ _ (put7 w9 (w.heap.size + 1) (.int .i32 q.a.v) (.int .i32 q.b.v) (.int .i32 q.c.v) (.int .i32 q.d.v) (.int .i64 S) (.int .i64 x.f) (.int .i64 G))
  have hcf := put7_chg w9 (w.heap.size + 1) (.int .i32 q.a.v) (.int .i32 q.b.v) (.int .i32 q.c.v) (.int .i32 q.d.v) (.int .i64 S) (.int .i64 x.f) (.int .i64 G)
  have kf := put7_blk r1 (.int .i32 q.a.v) (.int .i32 q.b.v) (.int .i32 q.c.v) (.int .i32 q.d.v) (.int .i64 S) (.int .i64 x.f) (.int .i64 G)
  have hsvf := hsv.chg0 hcf (by
   exact fun h0 => not_state r1 hsv h0)
  replace hc := hc.trans hcf (D := []) (fun k hk => by simp at hk; omega)
  generalize put7 w9 (w.heap.size + 1) (.int .i32 q.a.v) (.int .i32 q.b.v) (.int .i32 q.c.v) (.int .i32 q.d.v) (.int .i64 S) (.int .i64 x.f) (.int .i64 G) = wf at *
  have tc0 := kf.cell' (i := 0) rfl
  have tc1 := kf.cell' (i := 1) rfl
  have tc2 := kf.cell' (i := 2) rfl
  have tc3 := kf.cell' (i := 3) rfl
  have tc4 := kf.cell' (i := 4) rfl
  have tc5 := kf.cell' (i := 5) rfl
  have tc6 := kf.cell' (i := 6) rfl
  refine bodyPost_ret (results_ctt rfl _ _ _ (A := ⟨w.heap.size + 1, 0, none⟩) rfl (v := .agg #[.int .i32 q.a.v, .int .i32 q.b.v, .int .i32 q.c.v, .int .i32 q.d.v, .int .i64 S, .int .i64 x.f, .int .i64 G]) ?_) rfl ?_
  · go_simp
  · unfold feedP
    rw [HN.out, HF.out]
    exact ⟨⟨sv, rfl, hsvf⟩, hc⟩
 | false =>
  rw [hs] at HN HF
  have e1 : wrap64 (x.f + 1) = x.f + 1 := by unfold in16 at h2; unfold wrap64; omega
  have hF' : in16 (min (x.f + 1) 65535) := by unfold in16 at *; omega
  have hFL : (0 : Int) ≤ 1 ∧ (1 : Int) ≤ 7 := by decide
  go_upto_region 12 with (fail)
  have b3 : Blk (w6.setCell ⟨w.heap.size, 5, none⟩ (.int .i64 (min (x.f + 1) 65535))) w.heap.size 25 [.int .i32 x.q.a.v, .int .i32 x.q.b.v, .int .i32 x.q.c.v, .int .i32 x.q.d.v, .int .i64 S, .int .i64 (min (x.f + 1) 65535), .int .i64 x.g] := b2.set_ 5 _
  replace b1 := b1.far (p := ⟨w.heap.size, 5, none⟩) (by show w.heap.size + 1 ≠ w.heap.size; omega) (.int .i64 (min (x.f + 1) 65535))
  replace hc := hc.setCell ⟨w.heap.size, 5, none⟩ (.int .i64 (min (x.f + 1) 65535)) (.inr (Nat.le_refl _))
  clear uc0 uf0 uc1 uf1 uc2 uf2 uc3 uf3 uc4 uf4 uc5 uf5 uc6 uf6
  clear b2 e1
  generalize (w6.setCell ⟨w.heap.size, 5, none⟩ (.int .i64 (min (x.f + 1) 65535))) = w8 at *
  generalize min (x.f + 1) 65535 = F at *
  have vc0 := b3.cell' (i := 0) rfl
  have vf0 := b3.frozen 0
  have vc1 := b3.cell' (i := 1) rfl
  have vf1 := b3.frozen 1
  have vc2 := b3.cell' (i := 2) rfl
  have vf2 := b3.frozen 2
  have vc3 := b3.cell' (i := 3) rfl
  have vf3 := b3.frozen 3
  have vc4 := b3.cell' (i := 4) rfl
  have vf4 := b3.frozen 4
  have vc5 := b3.cell' (i := 5) rfl
  have vf5 := b3.frozen 5
  have vc6 := b3.cell' (i := 6) rfl
  have vf6 := b3.frozen 6
  go_wp2_with fail
  refine (tell_ok x.q.a x.q.b x.q.c x.q.d (s := S) (f := F) (g := x.g) (fl := 1) hi hF' h3 hFL (prightO_ok _ _ _ _ hi hF' h3) w8 (HW.out.chg hc (by simp))).mono ?_
  rintro e w9 ⟨⟨sv, rfl, hsv⟩, hc9⟩
  replace hc := hc.trans hc9 (D := []) (by simp)
  replace b3 := b3.chg hc9 (by simp)
  have r1 := b1.chg hc9 (by simp)
  clear vc0 vf0 vc1 vf1 vc2 vf2 vc3 vf3 vc4 vf4 vc5 vf5 vc6 vf6
  have vc0 := b3.cell' (i := 0) rfl
  have vf0 := b3.frozen 0
  have vc1 := b3.cell' (i := 1) rfl
  have vf1 := b3.frozen 1
  have vc2 := b3.cell' (i := 2) rfl
  have vf2 := b3.frozen 2
  have vc3 := b3.cell' (i := 3) rfl
  have vf3 := b3.frozen 3
  have vc4 := b3.cell' (i := 4) rfl
  have vf4 := b3.frozen 4
  have vc5 := b3.cell' (i := 5) rfl
  have vf5 := b3.frozen 5
  have vc6 := b3.cell' (i := 6) rfl
  have vf6 := b3.frozen 6
  have rc0 := r1.cell' (i := 0) rfl
  have rf0 := r1.frozen 0
  have rc1 := r1.cell' (i := 1) rfl
  have rf1 := r1.frozen 1
  have rc2 := r1.cell' (i := 2) rfl
  have rf2 := r1.frozen 2
  have rc3 := r1.cell' (i := 3) rfl
  have rf3 := r1.frozen 3
  have rc4 := r1.cell' (i := 4) rfl
  have rf4 := r1.frozen 4
  have rc5 := r1.cell' (i := 5) rfl
  have rf5 := r1.frozen 5
  have rc6 := r1.cell' (i := 6) rfl
  have rf6 := r1.frozen 6
  go_wp2_with fail
  change bodyPost _ _ _ _ _ (put7 w9 (w.heap.size + 1) (.int .i32 x.q.a.v) (.int .i32 x.q.b.v) (.int .i32 x.q.c.v) (.int .i32 x.q.d.v) (.int .i64 S) (.int .i64 F) (.int .i64 x.g))
  have hcf := put7_chg w9 (w.heap.size + 1) (.int .i32 x.q.a.v) (.int .i32 x.q.b.v) (.int .i32 x.q.c.v) (.int .i32 x.q.d.v) (.int .i64 S) (.int .i64 F) (.int .i64 x.g)
  have kf := put7_blk r1 (.int .i32 x.q.a.v) (.int .i32 x.q.b.v) (.int .i32 x.q.c.v) (.int .i32 x.q.d.v) (.int .i64 S) (.int .i64 F) (.int .i64 x.g)
  have hsvf := hsv.chg0 hcf (by
   exact fun h0 => not_state r1 hsv h0)
  replace hc := hc.trans hcf (D := []) (fun k hk => by simp at hk; omega)
  generalize put7 w9 (w.heap.size + 1) (.int .i32 x.q.a.v) (.int .i32 x.q.b.v) (.int .i32 x.q.c.v) (.int .i32 x.q.d.v) (.int .i64 S) (.int .i64 F) (.int .i64 x.g) = wf at *
  have tc0 := kf.cell' (i := 0) rfl
  have tc1 := kf.cell' (i := 1) rfl
  have tc2 := kf.cell' (i := 2) rfl
  have tc3 := kf.cell' (i := 3) rfl
  have tc4 := kf.cell' (i := 4) rfl
  have tc5 := kf.cell' (i := 5) rfl
  have tc6 := kf.cell' (i := 6) rfl
  refine bodyPost_ret (results_ctt rfl _ _ _ (A := ⟨w.heap.size + 1, 0, none⟩) rfl (v := .agg #[.int .i32 x.q.a.v, .int .i32 x.q.b.v, .int .i32 x.q.c.v, .int .i32 x.q.d.v, .int .i64 S, .int .i64 F, .int .i64 x.g]) ?_) rfl ?_
  · go_simp
  · unfold feedP
    rw [HN.out, HF.out]
    exact ⟨⟨sv, rfl, hsvf⟩, hc⟩
end Go.Proofs.YtihgijhjhmjolaaGreatDoor

/- What is refused: Tell, Feed. -/
namespace Go.Proofs.YtihgijhjhmjolaaGreatDoor.Xi
open Go Go.RowKit Go.Deep
set_option linter.unusedVariables false
def tlit0 : List (FuncId × AV) := [(27, .lit (.bool false))]
def rlit0 : List (FuncId × AV) := [(30, .lit (.bool false))]
def noE : List (EntK FTab) := []
def nilS : CA := .v (.slice none 0 0)
set_option maxRecDepth 100000 in
theorem pfeed_run14 (a b c d : Wd) (s f g : Int) (A : Option Addr) (n m : Nat) : runS (cxV tlit0 [] [] []) (tabK noE) 2000 10 [] [.agg (opqs 7 0), .lit (.slice A n m)] (inS a b c d s f g) = some (true, [.v (stV a b c d s f g), nilS, .v (.int .i64 14)], [rightO a b c d s f g false]) := by kernel_rfl
set_option maxRecDepth 100000 in
theorem rfeed_run14 (a b c d : Wd) (s f g : Int) (A : Option Addr) (n m : Nat) : runS (cxV rlit0 [] [] []) (tabK noE) 2000 11 [] [.agg (opqs 7 0), .lit (.slice A n m)] (inS a b c d s f g) = some (true, [.v (stV a b c d s f g), nilS, .v (.int .i64 14)], [rRightO a b c d s f g false]) := by kernel_rfl
def St.i64 (x : St) : Prop := (-9223372036854775808 ≤ x.s ∧ x.s ≤ 9223372036854775807) ∧ (-9223372036854775808 ≤ x.f ∧ x.f ≤ 9223372036854775807) ∧ (-9223372036854775808 ≤ x.g ∧ x.g ≤ 9223372036854775807)
theorem St.good {x : St} (h : x.i64) : goodL (inS x.q.a x.q.b x.q.c x.q.d x.s x.f x.g) := good_in7 (good_64 h.1) (good_64 h.2.1) (good_64 h.2.2)
def St.rb (x : St) : Bool := rightB x.s x.f x.g
theorem St.rb_iff (x : St) : x.rb = true ↔ x.right := rightB_iff _ _ _
theorem nil_sl (w : World) : Sl w (.slice none 0 0) (u8s []) := ⟨none, 0, rfl, Nat.le_refl _, fun h => absurd h (by simp [u8s])⟩
end Go.Proofs.YtihgijhjhmjolaaGreatDoor.Xi
