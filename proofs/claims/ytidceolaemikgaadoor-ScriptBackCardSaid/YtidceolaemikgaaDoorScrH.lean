/- A word's bytes: the program's unhex. -/
import Derived.Test.YtidceolaemikgaaDoorScrG
namespace Go.Proofs.YtidceolaemikgaaDoor
open Go.RowKit Go.Deep Go.Shelf
set_option linter.unusedVariables false
attribute [local go_sem] Oper.semAt_some
/-- The library's search for a rune among the digits. -/
theorem indexRune_calls (r : Int) (w : World) (h0 : 0 ≤ r) (h1 : r ≤ 2147483647) :
    Calls Tryd.prog 54 #[.string digB, .int .i32 r] w fun e w' => e = .returned (.int .i64 (if r < 128 then digV r.toNat.toUInt8 else -1)) ∧ Below w.heap.size w w' := by
  by_cases hr : r < 128
  · rw [if_pos hr]
    refine (Tryd.strings_IndexRune_ascii digB r w h0 hr).mono ?_
    rintro e w' ⟨rfl, rfl⟩
    rw [show digB.data.toList = digs from rfl, digs_index]
    exact ⟨rfl, Below.refl _ _⟩
  · rw [if_neg hr]
    by_cases he : r = 65533
    · subst he; exact indexRune_err w
    · cases hv : Lib.validRune r with
      | true => exact indexRune_far r w (by omega) h1 he hv
      | false => exact (indexRune_bad r w (by omega) h1 he hv).mono fun e w' ⟨h, h'⟩ => ⟨h, h' ▸ Below.refl _ _⟩
/-- The bytes of digits so far: pairs made whole, the last half, then zeros. -/
def pairN : List UInt8 → List Nat
  | [] => []
  | [x] => [(digV x).toNat]
  | x :: y :: r => (16 * (digV x).toNat + (digV y).toNat) :: pairN r
theorem digV_range (x : UInt8) : -1 ≤ digV x ∧ digV x ≤ 15 := by
  unfold digV digL
  split
  · rename_i n h
    split at h
    · injection h; omega
    · split at h
      · injection h; omega
      · cases h
  · omega
theorem digV_none (x : UInt8) : digV x < 0 ↔ digL x = none := by
  unfold digV
  cases digL x with
  | none => simp
  | some n => simp
theorem digV_some (x : UInt8) (h : 0 ≤ digV x) : digL x = some (digV x).toNat := by
  unfold digV at *
  cases hd : digL x with
  | none => rw [hd] at h; simp at h
  | some n => simp
theorem digV_low (x : UInt8) (h : 0 ≤ digV x) : x.toNat < 128 := by
  have := digV_some x h
  unfold digL at this
  split at this
  · omega
  · split at this
    · omega
    · cases this
theorem pairN_len : ∀ l : List UInt8, (pairN l).length = (l.length + 1) / 2
  | [] => rfl
  | [x] => by simp [pairN]
  | x :: y :: r => by simp only [pairN, List.length_cons, pairN_len r]; omega
theorem pairN_snoc : ∀ (l : List UInt8) (x : UInt8), pairN (l ++ [x]) = if l.length % 2 = 0 then pairN l ++ [(digV x).toNat] else (pairN l).set (l.length / 2) (16 * (pairN l).getD (l.length / 2) 0 + (digV x).toNat)
  | [], x => rfl
  | [y], x => by simp [pairN]
  | a :: b :: r, x => by
    have ih := pairN_snoc r x
    rw [List.cons_append, List.cons_append, pairN, ih]
    have e1 : (a :: b :: r).length % 2 = r.length % 2 := by simp only [List.length_cons]; omega
    have e2 : (a :: b :: r).length / 2 = r.length / 2 + 1 := by simp only [List.length_cons]; omega
    rw [e1, e2, pairN]
    split
    · simp
    · simp
theorem pairN_small : ∀ l : List UInt8, ∀ n ∈ pairN l, n < 256
  | [], n, h => by simp [pairN] at h
  | [x], n, h => by
    have := digV_range x
    simp [pairN] at h; omega
  | x :: y :: r, n, h => by
    have := digV_range x
    have := digV_range y
    rcases List.mem_cons.1 h with rfl | h
    · omega
    · exact pairN_small r n h
theorem unhex_pair : ∀ l : List UInt8, l.length % 2 = 0 → (∀ x ∈ l, 0 ≤ digV x) → unhexL l = some ((pairN l).map UInt8.ofNat)
  | [], _, _ => rfl
  | [x], h, _ => by simp at h
  | x :: y :: r, h, hd => by
    rw [unhexL, digV_some x (hd x (by simp)), digV_some y (hd y (by simp)), unhex_pair r (by simp only [List.length_cons] at h; omega) (fun z hz => hd z (by simp [hz]))]
    rfl
theorem unhex_odd : ∀ l : List UInt8, l.length % 2 = 1 → unhexL l = none
  | [], h => by simp at h
  | [x], _ => rfl
  | x :: y :: r, h => by
    rw [unhexL, unhex_odd r (by simp only [List.length_cons] at h; omega)]
    split <;> simp_all
theorem unhex_bad : ∀ (l : List UInt8) (x : UInt8), x ∈ l → digV x < 0 → unhexL l = none
  | [], x, h, _ => by simp at h
  | [y], _, _, _ => rfl
  | a :: b :: r, x, h, hx => by
    have hn := (digV_none x).1 hx
    rw [unhexL]
    rcases List.mem_cons.1 h with rfl | h
    · rw [hn]
    · rcases List.mem_cons.1 h with rfl | h
      · rw [hn]; split <;> simp_all
      · rw [unhex_bad r x h hx]; split <;> simp_all
def u8n (l : List Nat) : List Value := l.map fun (n : Nat) => Value.int .u8 (n : Int)
theorem u8n_bytes (l : List Nat) (h : ∀ n ∈ l, n < 256) : u8n l = Lib.byteCells (l.map UInt8.ofNat) := by
  unfold u8n Lib.byteCells
  rw [List.map_map]
  apply List.map_congr_left
  intro n hn
  have := h n hn
  simp [Function.comp]
  omega
end Go.Proofs.YtidceolaemikgaaDoor
