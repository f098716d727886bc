/- Texts of this claim, side by side: ByteRows, Threes. -/
import Derived.Test.YtihgijhjhmjolaaGreatDoorVP16
import Derived.Test.YtihgijhjhmjolaaGreatDoorOpen
import Derived.WalkKit
import Derived.ProofKit
import Derived.OpenShut
/- Slices of slices of bytes, as they are handed in. -/
namespace Go.Proofs.YtihgijhjhmjolaaGreatDoor.Xi
open Go Go.RowKit Go.Deep
open Go.ChangeShapes Go.WideShapes Go.ChangeAt
theorem u8_wf {n : Int} (h : (Lit.int .u8 n).wf = true) : 0 ≤ n ∧ n < 256 := by
 simp only [Lit.wf, IntKind.min, IntKind.max, IntKind.signed, IntKind.bits] at h
 simp at h
 omega
theorem u8s_ints {z : List Int} (hz : ∀ n ∈ z, (Lit.int .u8 n).wf = true) : z.map (Value.int .u8) = u8s (z.map Int.toNat) := by
 unfold u8s
 rw [List.map_map]
 refine List.map_congr_left fun n hn => ?_
 have := u8_wf (hz n hn)
 show Value.int .u8 n = .int .u8 (n.toNat : Int)
 rw [Int.toNat_of_nonneg this.1]
theorem toNat_lt {z : List Int} (hz : ∀ n ∈ z, (Lit.int .u8 n).wf = true) : ∀ y ∈ z.map Int.toNat, y < 256 := by
 intro y hy
 obtain ⟨n, hn, rfl⟩ := List.mem_map.1 hy
 have := u8_wf (hz n hn)
 omega
def BRow (w : World) (v : Value) : Prop := ∃ (A : Option Addr) (l c : Nat) (xs : List Nat), v = .slice A l c ∧ Sl w (.slice A l c) (u8s xs) ∧ xs.length = l ∧ l ≤ maxLen ∧ ∀ y ∈ xs, y < 256
theorem BRow.keep {w w' : World} {v : Value} (h : BRow w v) (hc : Chg w w' []) : BRow w' v := by
 obtain ⟨A, l, c, xs, rfl, h1, h2⟩ := h
 exact ⟨A, l, c, xs, rfl, h1.keep hc, h2⟩
theorem open_row {H : Type} {enc : TypeId × Value → H} {P : Program} {w : World} {base : Nat} {held : Bool} {e u : TypeId} {fuel : Nat} {v : Value} {x : DataW H × List MemPlace}
 (he : P.underlying e = some (.slice u)) (hu : P.underlying u = some (.int .u8)) (hC : P.cellsOf u = 1)
 (h : DataW.trod enc P w base (fun _ => true) held fuel e [v] = some x) : BRow w v := by
 rcases open_ints he hu hC h with ⟨hcs, _⟩ | ⟨x, l, c, zs, hcs, _, hl, hm, hz, _, hcell, hwz⟩
 · injection hcs with hcs
   subst hcs
   exact ⟨none, 0, 0, [], rfl, nil_sl _, rfl, Nat.zero_le _, by simp⟩
 · injection hcs with hcs
   subst hcs
   have hs := Sl.of_row (k := .u8) (w := w) (a := some x) (len := l) (cap := c) (zs := zs) (.inr ⟨_, rfl, hl, hm, by simpa using hz, hcell, hwz⟩)
   obtain ⟨h1, h2, h3, h4⟩ := hs
   rw [u8s_ints h4] at h1
   exact ⟨_, _, _, _, rfl, h1, by simpa using h2, h3, toNat_lt h4⟩
end Go.Proofs.YtihgijhjhmjolaaGreatDoor.Xi

/- Lists of what lanes are fed, as they are handed in. -/
namespace Go.Proofs.YtihgijhjhmjolaaGreatDoor.Xi
open Go Go.RowKit Go.Deep
open Go.ChangeShapes Go.WideShapes Go.ChangeAt
def Threes (w : World) (A : Option Addr) (n : Nat) : Prop := 0 < n → ∃ b off, A = some ⟨b, off, none⟩ ∧ ∀ i, i < n → ∃ r v1 v2 v3,
 w.cell? ⟨b, off + i * 4, none⟩ = some (.bool r) ∧ w.cell? ⟨b, off + i * 4 + 1, none⟩ = some v1 ∧ w.cell? ⟨b, off + i * 4 + 2, none⟩ = some v2 ∧ w.cell? ⟨b, off + i * 4 + 3, none⟩ = some v3 ∧ BRow w v1 ∧ BRow w v2 ∧ BRow w v3
theorem leaf_row {H : Type} {enc : TypeId × Value → H} {P : Program} {w : World} {base : Nat} {held : Bool} {e u : TypeId} {cs : List Value} {j : Nat}
 (he : P.underlying e = some (.slice u)) (hu : P.underlying u = some (.int .u8)) (hC : P.cellsOf u = 1)
 (h : LeafAt enc P w base (fun _ => true) held cs j e) : ∃ v, cs[j]? = some v ∧ BRow w v := by
 obtain ⟨m, y, v, hv, h⟩ := h
 exact ⟨v, hv, open_row he hu hC h⟩
theorem open_threes {H : Type} {enc : TypeId × Value → H} {P : Program} {w : World} {base : Nat} {held : Bool} {t e b u v : TypeId} {fuel : Nat} {a0 : Option Addr} {n c : Nat} {x : DataW H × List MemPlace}
 (ht : P.underlying t = some (.slice e)) (hE : P.cellsOf e = 4) (hlv : leaves P 1 e = [b, u, u, u]) (hok : leavesOk P 1 e = true) (hb : P.underlying b = some .bool) (hu : P.underlying u = some (.slice v)) (hv : P.underlying v = some (.int .u8)) (hC : P.cellsOf v = 1)
 (h : DataW.trod enc P w base (fun _ => true) held fuel t [.slice a0 n c] = some x) : n ≤ maxLen ∧ Threes w a0 n := by
 obtain ⟨h1, h2, h3⟩ := open_elems ht hE (by omega) h
 refine ⟨Nat.le_trans h1 h2, fun h0 => ?_⟩
 obtain ⟨bk, off, rfl, hall⟩ := h3 h0
 refine ⟨bk, off, rfl, fun i hi => ?_⟩
 obtain ⟨cs, m, y, hl, hc, hy⟩ := hall i hi
 have hL := trod_leaves 1 e hok m cs y (by rw [hl, hlv]; rfl) hy
 rw [hlv] at hL
 obtain ⟨r, q0⟩ := leaf_bool hb (hL 0 b rfl)
 obtain ⟨v1, q1, r1⟩ := leaf_row hu hv hC (hL 1 u rfl)
 obtain ⟨v2, q2, r2⟩ := leaf_row hu hv hC (hL 2 u rfl)
 obtain ⟨v3, q3, r3⟩ := leaf_row hu hv hC (hL 3 u rfl)
 exact ⟨r, v1, v2, v3, (hc 0 (by omega)).trans q0, (hc 1 (by omega)).trans q1, (hc 2 (by omega)).trans q2, (hc 3 (by omega)).trans q3, r1, r2, r3⟩
end Go.Proofs.YtihgijhjhmjolaaGreatDoor.Xi
