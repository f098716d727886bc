/- Scripts as lists of bytes: a text's lines, a line's words, a word's bytes, deeds of lines, and back. No program in sight. -/
import Derived.Lib.SplitLaws
namespace Go.Proofs.YtidceolaemikgaaDoor
/-- A text cut at every c. -/
def cutL (c : UInt8) : List UInt8 → List (List UInt8)
  | [] => [[]]
  | x :: xs => if x = c then [] :: cutL c xs else (x :: (cutL c xs).headD []) :: (cutL c xs).tail
def glueL (cur : List UInt8) (L : List (List UInt8)) : List (List UInt8) := (cur ++ L.headD []) :: L.tail
theorem cutL_glue (c : UInt8) (l : List UInt8) : glueL [] (cutL c l) = cutL c l := by
  cases l with
  | nil => rfl
  | cons x xs => unfold cutL; by_cases h : x = c <;> simp [h, glueL]
theorem cutL_len (c : UInt8) (l : List UInt8) : 0 < (cutL c l).length := by
  rw [← cutL_glue]; simp [glueL]
theorem split_cutL (c : UInt8) : ∀ l : List UInt8, Lib.split l [c] = cutL c l
  | [] => by
    unfold Lib.split
    rw [Lib.count_miss (by simp [Lib.index])]
    rfl
  | b :: l => by
    have ih := split_cutL c l
    unfold Lib.split at ih ⊢
    by_cases h : b = c
    · subst h
      rw [Lib.count_cons_eq, Nat.add_comm]
      have hix : Lib.index (b :: l) [b] = 0 := by rw [Lib.index]; simp [List.isPrefixOf]
      rw [Lib.splitK, hix]
      simp only [show ((0 : Int) == -1) = false from rfl, Bool.false_eq_true, if_false]
      have : cutL b (b :: l) = [] :: cutL b l := by rw [cutL, if_pos rfl]
      rw [this, ← ih]
      rfl
    · rw [Lib.count_cons_ne b c l h]
      have hp : ([c] : List UInt8).isPrefixOf (b :: l) = false := by simp [List.isPrefixOf, Ne.symm h]
      have hix : Lib.index (b :: l) [c] = if Lib.index l [c] == -1 then -1 else Lib.index l [c] + 1 := by rw [Lib.index, hp]; simp
      rw [cutL, if_neg h, ← ih]
      by_cases hm : Lib.index l [c] = -1
      · rw [Lib.count_miss hm]; rfl
      · have hge := Lib.index_ge l [c]
        obtain ⟨j, hj⟩ : ∃ j : Nat, Lib.index l [c] = j := ⟨(Lib.index l [c]).toNat, by omega⟩
        have hne : ¬ (Lib.index l [c] == -1) = true := fun e => hm (beq_iff_eq.1 e)
        have hne2 : ¬ (Lib.index (b :: l) [c] == -1) = true := fun e => by
          have := beq_iff_eq.1 e; rw [hix, if_neg hne] at this; omega
        rw [Lib.count_hit (by simp) hj, Nat.add_comm 1, Lib.splitK, Lib.splitK, if_neg hne, if_neg hne2, hix, if_neg hne, hj]
        have e1 : ((j : Int) + 1).toNat = j + 1 := by omega
        have e2 : ((j : Int)).toNat = j := by omega
        rw [e1, e2]
        simp
/-- What stands between blanks. -/
def wordsL (l : List UInt8) : List (List UInt8) := (cutL 32 l).filter fun w => !w.isEmpty
def trimN : List UInt8 → List UInt8
  | [] => []
  | [x] => if x = 10 then [] else [x]
  | x :: y :: r => x :: trimN (y :: r)
/-- A text's lines. -/
def linesL (l : List UInt8) : List (List UInt8) := if l = [] then [] else cutL 10 (trimN l)
theorem trimN_eq : ∀ l : List UInt8, Lib.trimSuffix l [10] = trimN l
  | [] => rfl
  | [x] => by
    unfold Lib.trimSuffix Lib.hasSuffix
    by_cases h : x = 10
    · subst h; rfl
    · have : ([10] : List UInt8).isSuffixOf [x] = false := by
        simp [List.isSuffixOf, List.isPrefixOf]; exact fun e => h e.symm
      rw [this]; simp [trimN, h]
  | x :: y :: r => by
    have ih := trimN_eq (y :: r)
    unfold Lib.trimSuffix Lib.hasSuffix at ih ⊢
    have e : ([10] : List UInt8).isSuffixOf (x :: y :: r) = ([10] : List UInt8).isSuffixOf (y :: r) := by
      rw [Bool.eq_iff_iff, List.isSuffixOf_iff_suffix, List.isSuffixOf_iff_suffix]
      constructor
      · intro h
        rcases List.suffix_cons_iff.1 h with h | h
        · simp at h
        · exact h
      · exact fun h => h.trans (List.suffix_cons _ _)
    rw [e]
    rw [trimN, ← ih]
    cases ([10] : List UInt8).isSuffixOf (y :: r) <;> simp
/-- The words, as the reference gathers them. -/
def wordsR : List UInt8 → List UInt8 → List (List UInt8)
  | w, [] => if w = [] then [] else [w]
  | w, x :: xs => if x = 32 then (if w = [] then wordsR [] xs else w :: wordsR [] xs) else wordsR (w ++ [x]) xs
theorem wordsR_eq : ∀ (l w : List UInt8), wordsR w l = (glueL w (cutL 32 l)).filter fun w => !w.isEmpty
  | [], w => by
    unfold wordsR cutL glueL
    cases w <;> simp
  | x :: xs, w => by
    unfold wordsR cutL
    by_cases h : x = 32
    · rw [if_pos h, if_pos h]
      have ih := wordsR_eq xs []
      rw [cutL_glue] at ih
      rw [ih]
      cases w <;> simp [glueL]
    · rw [if_neg h, if_neg h, wordsR_eq xs (w ++ [x])]
      simp [glueL]
theorem wordsR_nil (l : List UInt8) : wordsR [] l = wordsL l := by rw [wordsR_eq, cutL_glue]; rfl
/-- The lines, as the reference gathers them. -/
def linesR : List UInt8 → List UInt8 → List (List UInt8)
  | c, [] => if c = [] then [] else [c]
  | c, x :: xs => if x = 10 then c :: linesR [] xs else linesR (c ++ [x]) xs
theorem linesR_eq : ∀ (l c : List UInt8), linesR c l = if c = [] ∧ l = [] then [] else glueL c (cutL 10 (trimN l))
  | [], c => by
    unfold linesR
    cases c <;> simp [glueL, trimN, cutL]
  | [x], c => by
    unfold linesR
    by_cases h : x = 10
    · subst h; simp [linesR, trimN, cutL, glueL]
    · simp [linesR, trimN, cutL, glueL, h]
  | x :: y :: r, c => by
    rw [linesR]
    by_cases h : x = 10
    · rw [if_pos h, linesR_eq (y :: r) []]
      simp only [trimN, cutL, h, if_true, List.cons_ne_nil, and_false, if_false]
      rw [cutL_glue]
      simp [glueL]
    · rw [if_neg h, linesR_eq (y :: r) (c ++ [x])]
      simp only [trimN, cutL, h, List.cons_ne_nil, and_false, if_false]
      simp [glueL]
theorem linesR_nil (l : List UInt8) : linesR [] l = linesL l := by
  rw [linesR_eq]
  unfold linesL
  by_cases h : l = []
  · simp [h]
  · simp only [h, and_false, if_false]; rw [cutL_glue]

def digL (c : UInt8) : Option Nat := if 48 ≤ c.toNat ∧ c.toNat ≤ 57 then some (c.toNat - 48) else if 97 ≤ c.toNat ∧ c.toNat ≤ 102 then some (c.toNat - 87) else none
/-- A word's bytes. -/
def unhexL : List UInt8 → Option (List UInt8)
  | [] => some []
  | [_] => none
  | x :: y :: r => match digL x, digL y, unhexL r with
    | some a, some b, some t => some (UInt8.ofNat (16 * a + b) :: t)
    | _, _, _ => none
def dataL (w : List UInt8) : Option (List UInt8) := if w = [45] then some [] else unhexL w
def resetL : List UInt8 := [114, 101, 115, 101, 116]
def feedL : List UInt8 := [102, 101, 101, 100]
abbrev DeedL := Bool × List UInt8
/-- A line's deed. -/
def deedL : List (List UInt8) → Option DeedL
  | [a] => if a = resetL then some (false, []) else none
  | [a, b] => if a = feedL then (dataL b).map fun d => (true, d) else none
  | _ => none
/-- A line that tells nothing. -/
def idleL (w : List (List UInt8)) : Bool := w.isEmpty || ((w.headD []).headD 0 == 35)
/-- The deeds of lines, from the i-th on. -/
def parseL : Nat → List DeedL → List (List UInt8) → List DeedL × Nat × Nat
  | i, out, [] => (out, i, 0)
  | i, out, t :: ts => if idleL (wordsL t) then parseL (i + 1) out ts else
      match deedL (wordsL t) with
      | none => ([], i, 3)
      | some d => if out.length = 1000 then ([], i, 5) else parseL (i + 1) (out ++ [d]) ts
def hexD (n : Nat) : UInt8 := UInt8.ofNat (if n < 10 then 48 + n else 87 + n)
def hexB (b : List UInt8) : List UInt8 := b.flatMap fun x => [hexD (x.toNat / 16), hexD (x.toNat % 16)]
/-- Bytes as a word. -/
def hexL (b : List UInt8) : List UInt8 := if b = [] then [45] else hexB b
def lineL (d : DeedL) : List UInt8 := if d.1 then feedL ++ [32] ++ hexL d.2 else resetL
def textL (ds : List DeedL) : List UInt8 := ds.flatMap fun d => lineL d ++ [10]
def normL (d : DeedL) : DeedL := if d.1 then d else (false, [])
def sameL : List DeedL → List DeedL → Bool
  | [], [] => true
  | a :: as, b :: bs => (a.1 == b.1) && (!a.1 || a.2 == b.2) && sameL as bs
  | _, _ => false
theorem sameL_self : ∀ a : List DeedL, sameL a a = true
  | [] => rfl
  | a :: as => by unfold sameL; rw [sameL_self as]; simp
theorem sameL_norm : ∀ a : List DeedL, sameL (a.map normL) a = true
  | [] => rfl
  | a :: as => by
    obtain ⟨f, d⟩ := a
    rw [List.map_cons, sameL, sameL_norm as]
    cases f <;> simp [normL]

theorem linesR_line : ∀ (a c r : List UInt8), (10 : UInt8) ∉ a → linesR c (a ++ [10] ++ r) = (c ++ a) :: linesR [] r
  | [], c, r, _ => by simp [linesR]
  | x :: xs, c, r, h => by
    have hx : x ≠ 10 := fun e => h (by simp [e])
    rw [List.cons_append, List.cons_append, linesR, if_neg hx, linesR_line xs (c ++ [x]) r (fun m => h (List.mem_cons_of_mem _ m))]
    simp
theorem hexD_ok : ∀ n, n < 16 → hexD n ≠ 10 ∧ hexD n ≠ 32 ∧ digL (hexD n) = some n := by decide
theorem hexB_free : ∀ b : List UInt8, (10 : UInt8) ∉ hexB b ∧ (32 : UInt8) ∉ hexB b
  | [] => by simp [hexB]
  | x :: xs => by
    have ih := hexB_free xs
    have h1 := hexD_ok (x.toNat / 16) (by have := x.toNat_lt; omega)
    have h2 := hexD_ok (x.toNat % 16) (by omega)
    have e : hexB (x :: xs) = hexD (x.toNat / 16) :: hexD (x.toNat % 16) :: hexB xs := rfl
    rw [e]
    constructor
    · simp only [List.mem_cons, not_or]
      exact ⟨Ne.symm h1.1, Ne.symm h2.1, ih.1⟩
    · simp only [List.mem_cons, not_or]
      exact ⟨Ne.symm h1.2.1, Ne.symm h2.2.1, ih.2⟩
theorem hexL_free (b : List UInt8) : (10 : UInt8) ∉ hexL b ∧ (32 : UInt8) ∉ hexL b := by
  unfold hexL
  split
  · decide
  · exact hexB_free b
theorem hexL_ne (b : List UInt8) : hexL b ≠ [] := by
  unfold hexL
  cases b with
  | nil => simp
  | cons x xs => simp [hexB]
theorem unhex_hexB : ∀ b : List UInt8, unhexL (hexB b) = some b
  | [] => rfl
  | x :: xs => by
    have h1 := hexD_ok (x.toNat / 16) (by have := x.toNat_lt; omega)
    have h2 := hexD_ok (x.toNat % 16) (by omega)
    have e : hexB (x :: xs) = hexD (x.toNat / 16) :: hexD (x.toNat % 16) :: hexB xs := rfl
    rw [e, unhexL, h1.2.2, h2.2.2, unhex_hexB xs]
    show some (UInt8.ofNat (16 * (x.toNat / 16) + x.toNat % 16) :: xs) = some (x :: xs)
    rw [show 16 * (x.toNat / 16) + x.toNat % 16 = x.toNat by omega]
    simp
theorem data_hexL (b : List UInt8) : dataL (hexL b) = some b := by
  unfold dataL hexL
  cases b with
  | nil => rfl
  | cons x xs =>
    rw [if_neg (by simp : ¬ (x :: xs = [])), if_neg, unhex_hexB]
    intro e
    have := congrArg List.length e
    simp [hexB] at this
theorem wordsR_word : ∀ (a c r : List UInt8), (32 : UInt8) ∉ a → a ≠ [] → wordsR c (a ++ [32] ++ r) = (c ++ a) :: wordsR [] r
  | [], _, _, _, h => absurd rfl h
  | x :: xs, c, r, h, _ => by
    have hx : x ≠ 32 := fun e => h (by simp [e])
    rw [List.cons_append, List.cons_append, wordsR, if_neg hx]
    cases xs with
    | nil => simp [wordsR]
    | cons y ys =>
      rw [wordsR_word (y :: ys) (c ++ [x]) r (fun m => h (List.mem_cons_of_mem _ m)) (by simp)]
      simp
theorem wordsR_last : ∀ (a c : List UInt8), (32 : UInt8) ∉ a → c ++ a ≠ [] → wordsR c a = [c ++ a]
  | [], c, _, h => by
    have : c ≠ [] := by simpa using h
    simp [wordsR, this]
  | x :: xs, c, h, _ => by
    have hx : x ≠ 32 := fun e => h (by simp [e])
    rw [wordsR, if_neg hx, wordsR_last xs (c ++ [x]) (fun m => h (List.mem_cons_of_mem _ m)) (by simp)]
    simp
theorem words_line (d : DeedL) : wordsL (lineL d) = if d.1 then [feedL, hexL d.2] else [resetL] := by
  obtain ⟨f, b⟩ := d
  cases f with
  | false => rfl
  | true =>
    rw [← wordsR_nil]
    show wordsR [] (feedL ++ [32] ++ hexL b) = [feedL, hexL b]
    rw [wordsR_word feedL [] (hexL b) (by decide) (by decide), wordsR_last (hexL b) [] (hexL_free b).2 (by simpa using hexL_ne b)]
    rfl
theorem deed_line (d : DeedL) : idleL (wordsL (lineL d)) = false ∧ deedL (wordsL (lineL d)) = some (normL d) := by
  rw [words_line]
  obtain ⟨f, b⟩ := d
  cases f with
  | false =>
    show idleL [resetL] = false ∧ deedL [resetL] = some (false, [])
    exact ⟨by decide, by decide⟩
  | true =>
    refine ⟨rfl, ?_⟩
    show (if feedL = feedL then (dataL (hexL b)).map (fun d => (true, d)) else none) = some (true, b)
    rw [if_pos rfl, data_hexL]; rfl
theorem line_free (d : DeedL) : (10 : UInt8) ∉ lineL d := by
  obtain ⟨f, b⟩ := d
  cases f with
  | false => show (10 : UInt8) ∉ resetL; decide
  | true =>
    show (10 : UInt8) ∉ feedL ++ [32] ++ hexL b
    rw [List.mem_append]
    rintro (h | h)
    · exact absurd h (by decide)
    · exact (hexL_free b).1 h
theorem lines_text : ∀ ds : List DeedL, linesL (textL ds) = ds.map lineL := by
  intro ds
  rw [← linesR_nil]
  induction ds with
  | nil => rfl
  | cons d ds ih =>
    have e : textL (d :: ds) = lineL d ++ [10] ++ textL ds := rfl
    rw [e, linesR_line _ _ _ (line_free d), ih]
    rfl
theorem parse_lines : ∀ (ds : List DeedL) (i : Nat) (out : List DeedL), out.length + ds.length ≤ 1000 →
    parseL i out (ds.map lineL) = (out ++ ds.map normL, i + ds.length, 0)
  | [], i, out, _ => by simp [parseL]
  | d :: ds, i, out, h => by
    have hd := deed_line d
    simp only [List.length_cons] at h
    rw [List.map_cons, parseL, hd.1, hd.2]
    simp only [Bool.false_eq_true, if_false]
    rw [if_neg (by omega), parse_lines ds (i + 1) (out ++ [normL d]) (by simp; omega)]
    simp
    omega
/-- What has a text is parsed of it. -/
theorem parse_text (ds : List DeedL) (h : ds.length ≤ 1000) : parseL 0 [] (linesL (textL ds)) = (ds.map normL, ds.length, 0) := by
  rw [lines_text, parse_lines ds 0 [] (by simpa using h)]
  simp
end Go.Proofs.YtidceolaemikgaaDoor
