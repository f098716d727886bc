/- Plain laws of instructions and words: which instructions may be, what their words are. No program is in sight. -/
import Derived.Test.YtjfnpokebaagmaaGreatDoorRefCheck
import Derived.Laws.BitsAllLaws
namespace Go.Proofs.YtjfnpokebaagmaaGreatDoor
open Go.RowKit Go.Deep
set_option linter.unusedVariables false

def regOk (n : Int) : Prop := 0 ≤ n ∧ n ≤ 31
/-- What Check takes, told by numbers. -/
def Fits (op x y z u : Int) : Prop :=
  (1 ≤ op ∧ op ≤ 23) ∧ regOk x ∧ regOk y ∧ regOk z ∧ u = 0 ∨
  (24 ≤ op ∧ op ≤ 30) ∧ regOk x ∧ regOk y ∧ z = 0 ∧ u = 0 ∨
  op = 31 ∧ regOk x ∧ regOk y ∧ z = 0 ∧ (-32768 ≤ u ∧ u ≤ 32767) ∨
  (op = 33 ∨ op = 40) ∧ regOk x ∧ y = 0 ∧ z = 0 ∧ (0 ≤ u ∧ u ≤ 65535) ∨
  (op = 32 ∨ 34 ≤ op ∧ op ≤ 38) ∧ regOk x ∧ regOk y ∧ z = 0 ∧ (0 ≤ u ∧ u ≤ 65535) ∨
  op = 39 ∧ x = 0 ∧ y = 0 ∧ z = 0 ∧ (0 ≤ u ∧ u ≤ 65535) ∨
  op = 41 ∧ x = 0 ∧ regOk y ∧ z = 0 ∧ u = 0 ∨
  (op = 42 ∨ op = 43) ∧ x = 0 ∧ y = 0 ∧ z = 0 ∧ u = 0

theorem fe_iff (l : UInt8) (n : Int) : fe l n = 0 ↔ lo l ≤ n ∧ n ≤ hi l := by
  unfold fe
  have := er_ne l
  split <;> simp [*] <;> omega
theorem chk4_iff (a b c d : UInt8) (x y z u : Int) : chk4 a b c d x y z u = 0 ↔ fe a x = 0 ∧ fe b y = 0 ∧ fe c z = 0 ∧ fe d u = 0 := by
  unfold chk4
  by_cases h1 : fe a x = 0 <;> by_cases h2 : fe b y = 0 <;> by_cases h3 : fe c z = 0 <;> simp [h1, h2, h3]
theorem chk_iff (op x y z u : Int) : chk op x y z u = 0 ↔ Fits op x y z u := by
  unfold chk Fits regOk
  rcases shp_cases op with ⟨h, e⟩ | ⟨h, e⟩ | ⟨h, e⟩ | ⟨h, e⟩ | ⟨h, e⟩ | ⟨h, e⟩ | ⟨h, e⟩ | ⟨h, e⟩ | ⟨h, e⟩ | ⟨h, e⟩
  · rw [e]
    constructor
    · intro h'; simp at h'
    · rintro (h' | h' | h' | h' | h' | h' | h' | h') <;> omega
  · rw [e]
    simp only [chk4_iff, fe_iff, show lo 45 = 0 from rfl, show hi 45 = 0 from rfl, show lo 97 = 0 from rfl, show hi 97 = 31 from rfl, show lo 98 = 0 from rfl, show hi 98 = 31 from rfl, show lo 100 = 0 from rfl, show hi 100 = 31 from rfl]
    clear e
    constructor
    · intro h'
      exact .inl ⟨by omega, by omega, by omega, by omega, by omega⟩
    · rintro (h' | h' | h' | h' | h' | h' | h' | h') <;> omega
  · rw [e]
    simp only [chk4_iff, fe_iff, show lo 45 = 0 from rfl, show hi 45 = 0 from rfl, show lo 97 = 0 from rfl, show hi 97 = 31 from rfl, show lo 100 = 0 from rfl, show hi 100 = 31 from rfl]
    clear e
    constructor
    · intro h'
      exact .inr (.inl ⟨by omega, by omega, by omega, by omega, by omega⟩)
    · rintro (h' | h' | h' | h' | h' | h' | h' | h') <;> omega
  · rw [e]
    simp only [chk4_iff, fe_iff, show lo 45 = 0 from rfl, show hi 45 = 0 from rfl, show lo 97 = 0 from rfl, show hi 97 = 31 from rfl, show lo 100 = 0 from rfl, show hi 100 = 31 from rfl, show lo 115 = -32768 from rfl, show hi 115 = 32767 from rfl]
    clear e
    constructor
    · intro h'
      exact .inr (.inr (.inl ⟨by omega, by omega, by omega, by omega, by omega⟩))
    · rintro (h' | h' | h' | h' | h' | h' | h' | h') <;> omega
  · rw [e]
    simp only [chk4_iff, fe_iff, show lo 45 = 0 from rfl, show hi 45 = 0 from rfl, show lo 100 = 0 from rfl, show hi 100 = 31 from rfl, show lo 117 = 0 from rfl, show hi 117 = 65535 from rfl]
    clear e
    constructor
    · intro h'
      exact .inr (.inr (.inr (.inl ⟨by omega, by omega, by omega, by omega, by omega⟩)))
    · rintro (h' | h' | h' | h' | h' | h' | h' | h') <;> omega
  · rw [e]
    simp only [chk4_iff, fe_iff, show lo 45 = 0 from rfl, show hi 45 = 0 from rfl, show lo 100 = 0 from rfl, show hi 100 = 31 from rfl, show lo 117 = 0 from rfl, show hi 117 = 65535 from rfl]
    clear e
    constructor
    · intro h'
      exact .inr (.inr (.inr (.inl ⟨by omega, by omega, by omega, by omega, by omega⟩)))
    · rintro (h' | h' | h' | h' | h' | h' | h' | h') <;> omega
  · rw [e]
    simp only [chk4_iff, fe_iff, show lo 45 = 0 from rfl, show hi 45 = 0 from rfl, show lo 97 = 0 from rfl, show hi 97 = 31 from rfl, show lo 100 = 0 from rfl, show hi 100 = 31 from rfl, show lo 117 = 0 from rfl, show hi 117 = 65535 from rfl]
    clear e
    constructor
    · intro h'
      exact .inr (.inr (.inr (.inr (.inl ⟨by omega, by omega, by omega, by omega, by omega⟩))))
    · rintro (h' | h' | h' | h' | h' | h' | h' | h') <;> omega
  · rw [e]
    simp only [chk4_iff, fe_iff, show lo 45 = 0 from rfl, show hi 45 = 0 from rfl, show lo 117 = 0 from rfl, show hi 117 = 65535 from rfl]
    clear e
    constructor
    · intro h'
      exact .inr (.inr (.inr (.inr (.inr (.inl ⟨by omega, by omega, by omega, by omega, by omega⟩)))))
    · rintro (h' | h' | h' | h' | h' | h' | h' | h') <;> omega
  · rw [e]
    simp only [chk4_iff, fe_iff, show lo 45 = 0 from rfl, show hi 45 = 0 from rfl, show lo 97 = 0 from rfl, show hi 97 = 31 from rfl]
    clear e
    constructor
    · intro h'
      exact .inr (.inr (.inr (.inr (.inr (.inr (.inl ⟨by omega, by omega, by omega, by omega, by omega⟩))))))
    · rintro (h' | h' | h' | h' | h' | h' | h' | h') <;> omega
  · rw [e]
    simp only [chk4_iff, fe_iff, show lo 45 = 0 from rfl, show hi 45 = 0 from rfl]
    clear e
    constructor
    · intro h'
      exact .inr (.inr (.inr (.inr (.inr (.inr (.inr (⟨by omega, by omega, by omega, by omega, by omega⟩)))))))
    · rintro (h' | h' | h' | h' | h' | h' | h' | h') <;> omega

/-- The word behind the first k fields. -/
def encK (op x y z u : Int) : Nat → Int
  | 0 => op * 67108864
  | 1 => op * 67108864 + x * 2097152
  | 2 => op * 67108864 + x * 2097152 + y * 65536
  | 3 => op * 67108864 + x * 2097152 + y * 65536 + z * 2048
  | _ => op * 67108864 + x * 2097152 + y * 65536 + z * 2048 + u % 65536

theorem and31 (x : Int) (h0 : 0 ≤ x) (h1 : x < 4294967296) : bits .and .u32 x 31 = x % 32 := by
  rw [u32_and x 31 h0 h1 (by omega) (by omega)]
  have : (x.toNat &&& (31 : Int).toNat) = x.toNat % 32 := nat_mask5 _
  rw [this]; omega
theorem and65535 (x : Int) (h0 : 0 ≤ x) (h1 : x < 4294967296) : bits .and .u32 x 65535 = x % 65536 := by
  rw [u32_and x 65535 h0 h1 (by omega) (by omega)]
  have : (x.toNat &&& (65535 : Int).toNat) = x.toNat % 65536 := nat_mask16 _
  rw [this]; omega
theorem or_join (j : Nat) (a b : Int) (h0 : 0 ≤ a) (h1 : a < 4294967296) (h2 : 0 ≤ b) (h3 : b < 4294967296) (ha : a % ((2 ^ j : Nat) : Int) = 0) (hb : b < ((2 ^ j : Nat) : Int)) : bits .or .u32 a b = a + b := by
  rw [u32_or a b h0 h1 h2 h3]
  have e : a.toNat % 2 ^ j = 0 := by
    have : ((a.toNat % 2 ^ j : Nat) : Int) = 0 := by rw [Int.natCast_emod, Int.toNat_of_nonneg h0]; exact ha
    exact_mod_cast this
  have e2 : b.toNat < 2 ^ j := by omega
  rw [nat_join j _ _ e e2]; omega

theorem fits_bounds {op x y z u : Int} (h : Fits op x y z u) : (1 ≤ op ∧ op ≤ 43) ∧ (0 ≤ x ∧ x ≤ 31) ∧ (0 ≤ y ∧ y ≤ 31) ∧ (0 ≤ z ∧ z ≤ 31) ∧ (-32768 ≤ u ∧ u ≤ 65535) ∧ (z = 0 ∨ u = 0) := by
  unfold Fits regOk at h; omega

theorem enc1 {op x : Int} (ho : 1 ≤ op ∧ op ≤ 43) (hx : 0 ≤ x ∧ x ≤ 31) : bits .or .u32 (op * 67108864) (bits .and .u32 x 31 * 2097152 % 4294967296) = op * 67108864 + x * 2097152 := by
  rw [and31 x (by omega) (by omega), show x % 32 * 2097152 % 4294967296 = x * 2097152 by omega]
  exact or_join 26 _ _ (by omega) (by omega) (by omega) (by omega) (by omega) (by omega)
theorem enc2 {op x y : Int} (ho : 1 ≤ op ∧ op ≤ 43) (hx : 0 ≤ x ∧ x ≤ 31) (hy : 0 ≤ y ∧ y ≤ 31) : bits .or .u32 (op * 67108864 + x * 2097152) (bits .and .u32 y 31 * 65536 % 4294967296) = op * 67108864 + x * 2097152 + y * 65536 := by
  rw [and31 y (by omega) (by omega), show y % 32 * 65536 % 4294967296 = y * 65536 by omega]
  exact or_join 21 _ _ (by omega) (by omega) (by omega) (by omega) (by omega) (by omega)
theorem enc3 {op x y z : Int} (ho : 1 ≤ op ∧ op ≤ 43) (hx : 0 ≤ x ∧ x ≤ 31) (hy : 0 ≤ y ∧ y ≤ 31) (hz : 0 ≤ z ∧ z ≤ 31) : bits .or .u32 (op * 67108864 + x * 2097152 + y * 65536) (bits .and .u32 z 31 * 2048 % 4294967296) = op * 67108864 + x * 2097152 + y * 65536 + z * 2048 := by
  rw [and31 z (by omega) (by omega), show z % 32 * 2048 % 4294967296 = z * 2048 by omega]
  exact or_join 16 _ _ (by omega) (by omega) (by omega) (by omega) (by omega) (by omega)
theorem enc4 {op x y z u : Int} (ho : 1 ≤ op ∧ op ≤ 43) (hx : 0 ≤ x ∧ x ≤ 31) (hy : 0 ≤ y ∧ y ≤ 31) (hz : 0 ≤ z ∧ z ≤ 31) (hzu : z = 0 ∨ u = 0) : bits .or .u32 (op * 67108864 + x * 2097152 + y * 65536 + z * 2048) (bits .and .u32 (u % 4294967296) 65535 % 4294967296) = op * 67108864 + x * 2097152 + y * 65536 + z * 2048 + u % 65536 := by
  rw [and65535 _ (by omega) (by omega), show u % 4294967296 % 65536 % 4294967296 = u % 65536 by omega]
  rcases hzu with rfl | rfl
  · exact or_join 16 _ _ (by omega) (by omega) (by omega) (by omega) (by omega) (by omega)
  · exact or_join 0 _ _ (by omega) (by omega) (by omega) (by omega) (by omega) (by omega)

/-- What Decode makes of a field's number. -/
def fx (l : UInt8) (n : Int) : Int := if l = 45 then 0 else if l = 115 then IntKind.i16.wrap n else n
def dx (n : Int) (l : UInt8) : Int := fx l (n / 2097152 % 32)
def dy (n : Int) (l : UInt8) : Int := fx l (n / 65536 % 32)
def dz (n : Int) (l : UInt8) : Int := fx l (n / 2048 % 32)
def du (n : Int) (l : UInt8) : Int := fx l (n % 65536)

theorem i16_wrap (n : Int) : IntKind.i16.wrap n = (n + 32768) % 65536 - 32768 := by
  simp [IntKind.wrap, IntKind.bits, IntKind.signed]
  split <;> omega
theorem raw31 (r : Int) (h0 : 0 ≤ r) (h1 : r < 4294967296) : wrap64 (bits .and .u32 r 31) = r % 32 := by
  rw [and31 r h0 h1]; unfold wrap64; omega
theorem raw65535 (r : Int) (h0 : 0 ≤ r) (h1 : r < 4294967296) : wrap64 (bits .and .u32 r 65535) = r % 65536 := by
  rw [and65535 r h0 h1]; unfold wrap64; omega
theorem sx64 (m : Int) : wrap64 (IntKind.i16.wrap m) = IntKind.i16.wrap m := by rw [i16_wrap]; unfold wrap64; omega

theorem fe_fx (l : UInt8) (m : Int) (h0 : 0 ≤ m) (h : m ≤ 31 ∨ m ≤ 65535 ∧ (l = 45 ∨ l = 115 ∨ l = 117)) : fe l (fx l m) = 0 := by
  rw [fe_iff]
  unfold fx lo hi
  by_cases h1 : l = 45
  · rw [if_pos h1, if_pos h1]; split <;> omega
  · by_cases h2 : l = 115
    · rw [if_neg h1, if_pos h2, if_neg h1, if_pos h2, if_pos h2, i16_wrap]; omega
    · by_cases h3 : l = 117
      · rw [if_neg h1, if_neg h2, if_neg h1, if_neg h2, if_neg h2, if_pos h3]; omega
      · rw [if_neg h1, if_neg h2, if_neg h1, if_neg h2, if_neg h2, if_neg h3]; simp [h1, h2, h3] at h; omega
theorem shp_last {op : Int} {a b c d : UInt8} (h : shp op = [a, b, c, d]) : d = 45 ∨ d = 115 ∨ d = 117 := by
  rcases shp_cases op with ⟨_, e⟩ | ⟨_, e⟩ | ⟨_, e⟩ | ⟨_, e⟩ | ⟨_, e⟩ | ⟨_, e⟩ | ⟨_, e⟩ | ⟨_, e⟩ | ⟨_, e⟩ | ⟨_, e⟩
  all_goals
    rw [e] at h
    first | (simp at h; done) | (injection h with _ h; injection h with _ h; injection h with _ h; injection h with h _; subst h; simp)
theorem dec_chk {op n : Int} {a b c d : UInt8} (hn : 0 ≤ n) (h : shp op = [a, b, c, d]) : chk op (dx n a) (dy n b) (dz n c) (du n d) = 0 := by
  unfold chk
  rw [h]
  show chk4 a b c d _ _ _ _ = 0
  rw [chk4_iff]
  exact ⟨fe_fx _ _ (by omega) (.inl (by omega)), fe_fx _ _ (by omega) (.inl (by omega)), fe_fx _ _ (by omega) (.inl (by omega)), fe_fx _ _ (by omega) (.inr ⟨by omega, shp_last h⟩)⟩

end Go.Proofs.YtjfnpokebaagmaaGreatDoor
