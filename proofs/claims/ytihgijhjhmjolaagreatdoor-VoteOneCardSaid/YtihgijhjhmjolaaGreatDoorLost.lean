/- Lists of what two lanes are fed, as they are handed in. -/
import Derived.Test.YtihgijhjhmjolaaGreatDoorVP18
import Derived.Test.YtihgijhjhmjolaaGreatDoorOpen
namespace Go.Proofs.YtihgijhjhmjolaaGreatDoor
open Go.ChangeShapes Go.WideShapes Go.ChangeAt Go.RowKit
section
variable {H : Type} {enc : TypeId × Value → H} {P : Program} {w : World} {base : Nat} {spare : Nat → Bool} {held : Bool}
theorem leaf_int {cs : List Value} {j : Nat} {t : TypeId} {k : IntKind} (ht : P.underlying t = some (.int k)) (h : LeafAt enc P w base spare held cs j t) : ∃ n, cs[j]? = some (.int k n) ∧ (Lit.int k n).wf = true := by
  obtain ⟨m, y, v, hv, h⟩ := h
  obtain ⟨n, e, _, hw⟩ := DataW.trod_int ht h
  injection e with e _
  subst e
  exact ⟨n, hv, hw⟩
end
end Go.Proofs.YtihgijhjhmjolaaGreatDoor
namespace Go.Proofs.YtihgijhjhmjolaaGreatDoor.Xi
open Go Go.RowKit Go.Deep
open Go.ChangeShapes Go.WideShapes Go.ChangeAt
def Losts (w : World) (A : Option Addr) (n : Nat) : Prop := 0 < n → ∃ b off, A = some ⟨b, off, none⟩ ∧ ∀ i, i < n → ∃ (r : Int) (v1 v2 : Value),
  w.cell? ⟨b, off + i * 3, none⟩ = some (.int .u8 r) ∧ (0 ≤ r ∧ r < 256) ∧ w.cell? ⟨b, off + i * 3 + 1, none⟩ = some v1 ∧ w.cell? ⟨b, off + i * 3 + 2, none⟩ = some v2 ∧ BRow w v1 ∧ BRow w v2
theorem open_losts {H : Type} {enc : TypeId × Value → H} {P : Program} {w : World} {base : Nat} {held : Bool} {t e u v : TypeId} {fuel : Nat} {a0 : Option Addr} {n c : Nat} {x : DataW H × List MemPlace}
    (ht : P.underlying t = some (.slice e)) (hE : P.cellsOf e = 3) (hlv : leaves P 1 e = [v, u, u]) (hok : leavesOk P 1 e = true) (hu : P.underlying u = some (.slice v)) (hv : P.underlying v = some (.int .u8)) (hC : P.cellsOf v = 1)
    (h : DataW.trod enc P w base (fun _ => true) held fuel t [.slice a0 n c] = some x) : n ≤ maxLen ∧ Losts w a0 n := by
  obtain ⟨h1, h2, h3⟩ := open_elems ht hE (by omega) h
  refine ⟨Nat.le_trans h1 h2, fun h0 => ?_⟩
  obtain ⟨bk, off, rfl, hall⟩ := h3 h0
  refine ⟨bk, off, rfl, fun i hi => ?_⟩
  obtain ⟨cs, m, y, hl, hc, hy⟩ := hall i hi
  have hL := trod_leaves 1 e hok m cs y (by rw [hl, hlv]; rfl) hy
  rw [hlv] at hL
  obtain ⟨r, q0, hr⟩ := leaf_int hv (hL 0 v rfl)
  obtain ⟨v1, q1, r1⟩ := leaf_row hu hv hC (hL 1 u rfl)
  obtain ⟨v2, q2, r2⟩ := leaf_row hu hv hC (hL 2 u rfl)
  exact ⟨r, v1, v2, (hc 0 (by omega)).trans q0, u8_wf hr, (hc 1 (by omega)).trans q1, (hc 2 (by omega)).trans q2, r1, r2⟩
end Go.Proofs.YtihgijhjhmjolaaGreatDoor.Xi
