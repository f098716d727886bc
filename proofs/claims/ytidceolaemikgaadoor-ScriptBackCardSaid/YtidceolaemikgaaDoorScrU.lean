/- Lists of deeds, as they are handed in; the frame of a law that wants the world's shape. -/
import Derived.Test.YtidceolaemikgaaDoorScrW
import Derived.Test.YtidceolaemikgaaDoorOpen
import Derived.HandedShaped
import Derived.Shelf.Vars
import Derived.Handed
namespace Go.Proofs.YtidceolaemikgaaDoor
open Go.RowKit Go.Deep
open Go.ChangeShapes Go.WideShapes Go.ChangeAt
set_option linter.unusedVariables false
theorem u8_wf {n : Int} (h : (Lit.int .u8 n).wf = true) : 0 ≤ n ∧ n < 256 := by
  simp only [Lit.wf, IntKind.min, IntKind.max, IntKind.signed, IntKind.bits] at h
  simp at h
  omega
theorem cells_bytes {z : List Int} (hz : ∀ n ∈ z, (Lit.int .u8 n).wf = true) : z.map (Value.int .u8) = Lib.byteCells (z.map fun n => UInt8.ofNat n.toNat) := by
  unfold Lib.byteCells
  rw [List.map_map]
  refine List.map_congr_left fun n hn => ?_
  have := u8_wf (hz n hn)
  show Value.int .u8 n = .int .u8 ((UInt8.ofNat n.toNat).toNat : Int)
  congr 1
  rw [UInt8.toNat_ofNat']
  omega
/-- One slice of bytes. -/
theorem open_brow {H : Type} {enc : TypeId × Value → H} {P : Program} {w : World} {base : Nat} {held : Bool} {e u : TypeId} {fuel : Nat} {v : Value} {x : DataW H × List MemPlace}
    (he : P.underlying e = some (.slice u)) (hu : P.underlying u = some (.int .u8)) (hC : P.cellsOf u = 1)
    (h : DataW.trod enc P w base (fun _ => true) held fuel e [v] = some x) : ∃ bs : List UInt8, Sl w v (Lib.byteCells bs) ∧ bs.length ≤ maxLen := by
  rcases open_ints he hu hC h with ⟨hcs, _⟩ | ⟨x, l, c, zs, hcs, _, hl, hm, hz, _, hcell, hwz⟩
  · injection hcs with hcs
    subst hcs
    exact ⟨[], sl_nil _, Nat.zero_le _⟩
  · injection hcs with hcs
    subst hcs
    have hs := Sl.of_row (k := .u8) (w := w) (a := some x) (len := l) (cap := c) (zs := zs) (.inr ⟨_, rfl, hl, hm, by simpa using hz, hcell, hwz⟩)
    obtain ⟨h1, h2, h3, h4⟩ := hs
    rw [cells_bytes h4] at h1
    exact ⟨_, h1, by rw [List.length_map, h2]; exact h3⟩
theorem choose_list {P : Nat → DeedL → Prop} : ∀ n, (∀ i, i < n → ∃ d, P i d) → ∃ ds : List DeedL, ds.length = n ∧ ∀ i, i < n → P i (ds.getD i (false, []))
  | 0, _ => ⟨[], rfl, fun i h => by omega⟩
  | n + 1, h => by
    obtain ⟨ds, hl, hd⟩ := choose_list n (fun i hi => h i (by omega))
    obtain ⟨d, hp⟩ := h n (by omega)
    refine ⟨ds ++ [d], by simp [hl], fun i hi => ?_⟩
    by_cases e : i = n
    · subst e
      have : (ds ++ [d]).getD i (false, []) = d := by simp [← hl]
      rw [this]; exact hp
    · have : (ds ++ [d]).getD i (false, []) = ds.getD i (false, []) := by
        simp only [List.getD_eq_getElem?_getD]
        rw [List.getElem?_append_left (by omega)]
      rw [this]; exact hd i (by omega)
theorem open_deeds {H : Type} {enc : TypeId × Value → H} {P : Program} {w : World} {base : Nat} {held : Bool} {t e b u v : TypeId} {fuel : Nat} {a0 : Option Addr} {n c : Nat} {x : DataW H × List MemPlace}
    (ht : P.underlying t = some (.slice e)) (hE : P.cellsOf e = 2) (hlv : leaves P 1 e = [b, u]) (hok : leavesOk P 1 e = true) (hb : P.underlying b = some .bool) (hu : P.underlying u = some (.slice v)) (hv : P.underlying v = some (.int .u8)) (hC : P.cellsOf v = 1)
    (h : DataW.trod enc P w base (fun _ => true) held fuel t [.slice a0 n c] = some x) : ∃ ds : List DeedL, DSl w (.slice a0 n c) ds ∧ ds.length ≤ maxLen ∧ ∀ d ∈ ds, d.2.length ≤ maxLen := by
  obtain ⟨h1, h2, h3⟩ := open_elems ht hE (by omega) h
  have key : ∀ i, i < n → ∃ d : DeedL, d.2.length ≤ maxLen ∧ ∃ bk off, a0 = some ⟨bk, off, none⟩ ∧ ∃ f s, w.cell? ⟨bk, off + i * 2, none⟩ = some (.bool f) ∧ w.cell? ⟨bk, off + i * 2 + 1, none⟩ = some s ∧ f = d.1 ∧ Sl w s (Lib.byteCells d.2) := by
    intro i hi
    obtain ⟨bk, off, rfl, hall⟩ := h3 (by omega)
    obtain ⟨cs, m, y, hl, hc, hy⟩ := hall i hi
    have hL := trod_leaves 1 e hok m cs y (by rw [hl, hlv]; rfl) hy
    rw [hlv] at hL
    obtain ⟨r, q0⟩ := leaf_bool hb (hL 0 b rfl)
    obtain ⟨m', y', s, q1, hs⟩ := hL 1 u rfl
    obtain ⟨bs, r1, r2⟩ := open_brow hu hv hC hs
    exact ⟨(r, bs), r2, bk, off, rfl, r, s, (hc 0 (by omega)).trans q0, (hc 1 (by omega)).trans q1, rfl, r1⟩
  obtain ⟨ds, hl, hd⟩ := choose_list n key
  subst hl
  refine ⟨ds, ⟨a0, c, rfl, fun h0 => ?_⟩, Nat.le_trans h1 h2, fun d hm => ?_⟩
  · obtain ⟨bk, off, rfl, _⟩ := h3 h0
    refine ⟨bk, off, rfl, fun k hk => ?_⟩
    obtain ⟨_, bk', off', e, hx⟩ := hd k hk
    injection e with e; injection e with e1 e2 _
    subst e1 e2
    exact hx
  · obtain ⟨i, hi, rfl⟩ := List.getElem_of_mem hm
    have := (hd i hi).1
    simpa [hi] using this
/-- As the library's wrap for changes under a condition, the world's shape kept. -/
theorem returns_and_shaped {H : Type} {enc : TypeId × Value → H} {a : Assume} {C : Checked} {os : Os} {f : FuncId} {fn : Func} {s : ChangeSpec} {conds : List PathCond} {apart fresh handsOn again : Bool} {X : World → Array Value → Prop}
    (hX : ∀ (w w' : World) (args : Array Value), w.heap = w'.heap → X w args → X w' args)
    (own : ownKnob C.prog.godebug = none) (started : os.Started) (noInit : C.prog.inits.idxOf? f = none) (hfn : C.prog.funcs[f]? = some fn)
    (witness : ∃ (w : World) (tape : Tape) (i : Input), w.os = os ∧ (w.forCall tape i).Shaped C.prog ∧ i.vars = [] ∧ Input.okWide C.prog (w.forCall tape i) .any w.heap.size f i ∧
      ((s.pre enc C.prog fn conds apart (w.forCall tape i).memory i.args ∧ X (w.forCall tape i).memory i.args) ∧ sizedMet enc C.prog fn (OpenSpec.ofChange s) apart (w.forCall tape i).memory i.args) ∧ a.holds C.prog (lone (Frame.enter C.prog f i.args .normal) [] (w.forCall tape i)))
    (contract : ∀ (W : World) (base : Nat) (args : Array Value) (ds gs : List (DataW H)) (before : List MemPlace),
      (∀ (j : Nat) t v, fn.params[j]? = some t → args[j]? = some v → Value.okWide C.prog W .any base t v) →
      DataW.Whole enc C.prog fn.params.toList s.vars apart W args.toList ds gs before →
      conds.all (PathCond.test C.prog ⟨fn.params.toList, ds, s.plain.varTypes C.prog, gs⟩) = true →
      (DataW.weightsEach C.prog (fn.params.toList ++ s.plain.varTypes C.prog) (ds ++ gs)).all (· ≤ reachBytes) = true → X W args → W.ShapedOpen C.prog →
      a.holds C.prog (lone (Frame.enter C.prog f args .normal) [] W) →
      Calls C.prog f args W fun e W' => ∃ v, e = .returned v ∧ s.post enc C.prog fn apart fresh handsOn again W args v W') :
    ReturnsInHanded a C os f .any (fun w args => (s.pre enc C.prog fn conds apart w args ∧ X w args) ∧ sizedMet enc C.prog fn (OpenSpec.ofChange s) apart w args) (s.post enc C.prog fn apart fresh handsOn again) := by
  refine returnsInHanded_of_calls own started noInit witness ?_
  intro w tape i _ hsh _ hok hpre hholds
  obtain ⟨_, _, _, fn', hfn', _, _, _, _, hval⟩ := hok
  have e : fn' = fn := Option.some.inj (hfn'.symm.trans hfn)
  subst e
  obtain ⟨⟨⟨ds, gs, before, hw, hc⟩, hx⟩, hz⟩ := hpre
  have hw' := DataW.Whole.of_heap (w' := w.forCall tape i) (by rfl) hw
  refine (contract (w.forCall tape i) w.heap.size i.args ds gs before hval hw' hc (hz.weights hw) (hX _ _ _ (by rfl) hx) hsh hholds).mono fun e W' ⟨v, he, hp⟩ => ?_
  subst he
  exact ChangeSpec.post_blind hp
theorem mxl_of_shaped {W : World} (h : W.ShapedOpen Tryd.prog) : MxL W :=
  Go.Proofs.cell_of_shapedOpen_int (g := 3) (t := 3) (zero := #[.int .i64 0]) h (of_decide_eq_true (by kernel_rfl)) (by kernel_rfl) (by kernel_rfl) (by kernel_rfl) (by kernel_rfl) Tryd.underlying3
end Go.Proofs.YtidceolaemikgaaDoor
