/- Texts of this claim, side by side: ModelH, ModelI. -/
import Derived.Test.YtihgijhjhmjolaaGreatDoorVP12
import Derived.Lib.SlicesS
/- The reference's Feed: what it makes of a state and twenty bytes. -/
namespace Go.Proofs.YtihgijhjhmjolaaGreatDoor.Xi
open Go Go.RowKit Go.Deep
set_option linter.unusedVariables false
structure St where
 q : Q4
 s : Int
 f : Int
 g : Int
def St.val (x : St) : Value := stV x.q.a x.q.b x.q.c x.q.d x.s x.f x.g
def St.right (x : St) : Prop := in16 x.s ∧ in16 x.f ∧ in16 x.g
def xI (xs : List Nat) (i : Nat) : Int := (xs.getD i 0 : Nat)
def St.next (x : St) (xs : List Nat) : St := bif sumOk xs 18 then ⟨nextK x.q.a x.q.b x.q.c x.q.d (xI xs), (x.s + 1) % 65536, x.f, (x.g + 1) % 65536⟩ else ⟨x.q, (x.s + 1) % 65536, min (x.f + 1) 65535, x.g⟩
def flN (xs : List Nat) : Int := bif sumOk xs 18 then nextF (xI xs) else 1
def St.frame (x : St) (fl : Int) : List Nat := frameN x.q.a x.q.b x.q.c x.q.d x.s x.f x.g fl
theorem rinc_eq {x : Int} (h : in16 x) : rinc x = (x + 1) % 65536 := by
 unfold in16 at h
 unfold rinc
 rw [show IntKind.i64.wrap (x + 1) = x + 1 by rw [IntKind.wrap_i64]; omega, tmodP (by omega), IntKind.wrap_i64]
 omega
theorem inc16 {x : Int} (h : in16 x) : in16 ((x + 1) % 65536) := by unfold in16 at *; omega
theorem nextF_in (B : Nat → Int) : 0 ≤ nextF B ∧ nextF B ≤ 7 := by
 unfold nextF flagsI flagI
 split <;> split <;> omega
theorem flN_in (xs : List Nat) : 0 ≤ flN xs ∧ flN xs ≤ 7 := by
 unfold flN
 cases sumOk xs 18 with
 | true => exact nextF_in _
 | false => simp
theorem bstr_list : ∀ (l : List Nat) (b : ByteArray), ((nI l).foldl (fun r n => r.push (UInt8.ofNat n.toNat)) b).data.toList = b.data.toList ++ l.map UInt8.ofNat
 | [], b => by simp [nI]
 | x :: l, b => by
  show ((nI l).foldl _ (b.push (UInt8.ofNat ((x : Int).toNat)))).data.toList = _
  rw [bstr_list l]
  simp [ByteArray.push]
theorem bstr_nat (l : List Nat) : bstr (nI l) = ⟨(l.map UInt8.ofNat).toArray⟩ := by
 unfold bstr
 have h := bstr_list l ByteArray.empty
 apply ByteArray.ext
 apply Array.ext'
 rw [h]
 simp
theorem u8_inj {a b : Nat} (ha : a < 256) (hb : b < 256) (h : UInt8.ofNat a = UInt8.ofNat b) : a = b := by
 have := congrArg UInt8.toNat h
 simp at this
 omega
theorem u8l_inj : ∀ {l m : List Nat}, (∀ x ∈ l, x < 256) → (∀ x ∈ m, x < 256) → l.map UInt8.ofNat = m.map UInt8.ofNat → l = m
 | [], [], _, _, _ => rfl
 | [], _ :: _, _, _, h => by cases h
 | _ :: _, [], _, _, h => by cases h
 | x :: l, y :: m, hl, hm, h => by
  simp only [List.map_cons, List.cons.injEq] at h
  rw [u8_inj (hl x (by simp)) (hm y (by simp)) h.1, u8l_inj (fun z hz => hl z (by simp [hz])) (fun z hz => hm z (by simp [hz])) h.2]
theorem bstr_eq {l m : List Nat} (hl : ∀ x ∈ l, x < 256) (hm : ∀ x ∈ m, x < 256) : ((bstr (nI l)).toList == (bstr (nI m)).toList) = decide (l = m) := by
 by_cases h : l = m
 · subst h; simp
 · rw [decide_eq_false h, Lib.bytes_beq_false_iff]
   intro e
   rw [bstr_nat, bstr_nat] at e
   injection e with e
   exact h (u8l_inj hl hm (by simpa using congrArg Array.toList e))
theorem t_sneq (T : TypeId) (a b : ByteArray) : PrOk Tryz.prog (.bin .neq T) [.string a, .string b] (.bool (!(a.toList == b.toList))) := fun x y w => by simp [eqGuard, binOp, Op.stringOp]
theorem split18 {xs : List Nat} (h : xs.length = 20) : xs = xs.take 18 ++ [xs.getD 18 0, xs.getD 19 0] := by
 match xs, h with
 | [x0, x1, x2, x3, x4, x5, x6, x7, x8, x9, x10, x11, x12, x13, x14, x15, x16, x17, x18, x19], _ => rfl
theorem seal_sum {xs : List Nat} (h : xs.length = 20) : decide (sealN (xs.take 18) = xs) = sumOk xs 18 := by
 have e := split18 h
 unfold sumOk
 have : (sealN (xs.take 18) = xs) ↔ (foldN 65535 (xs.take 18) / 256 = xs.getD 18 0 ∧ foldN 65535 (xs.take 18) % 256 = xs.getD 19 0) := by
  conv => lhs; rhs; rw [e]
  unfold sealN
  simp
 rw [decide_eq_decide.2 this, Bool.decide_and]
 rfl
theorem front_nat {xs : List Nat} (h : xs.length = 20) : front (xI xs) 18 = nI (xs.take 18) ∧ front (xI xs) 20 = nI xs := by
 match xs, h with
 | [x0, x1, x2, x3, x4, x5, x6, x7, x8, x9, x10, x11, x12, x13, x14, x15, x16, x17, x18, x19], _ => exact ⟨rfl, rfl⟩
theorem sealN_lt {l : List Nat} (h : ∀ x ∈ l, x < 256) : ∀ x ∈ sealN l, x < 256 := fun x hx => by
 have := foldN_lt (c := 65535) (by decide) l
 unfold sealN at hx
 rcases List.mem_append.1 hx with hx | hx
 · exact h x hx
 · simp at hx
   omega
theorem sumO_ok {xs : List Nat} (h : xs.length = 20) (hx : ∀ x ∈ xs, x < 256) : ObOk Tryz.prog (sumO (xI xs) (!sumOk xs 18)) := by
 have h1 := t_sneq 9 (bstr (rSeal (front (xI xs) 18))) (bstr (front (xI xs) 20))
 obtain ⟨e1, e2⟩ := front_nat h
 have e3 := bstr_eq (l := sealN (xs.take 18)) (m := xs) (sealN_lt fun x hx' => hx x (List.mem_of_mem_take hx')) hx
 rw [seal_sum h] at e3
 have : ((bstr (rSeal (front (xI xs) 18))).toList == (bstr (front (xI xs) 20)).toList) = sumOk xs 18 := by rw [e1, e2, rSeal_nat, e3]
 rw [this] at h1
 exact h1
theorem vb_nat {xs : List Nat} (h : xs.length = 20) : vb (xI xs) 20 = u8s xs := by
 match xs, h with
 | [x0, x1, x2, x3, x4, x5, x6, x7, x8, x9, x10, x11, x12, x13, x14, x15, x16, x17, x18, x19], _ => rfl
theorem good_u8s {xs : List Nat} (hx : ∀ x ∈ xs, x < 256) : goodL (u8s xs) := fun v hv => by
 obtain ⟨x, hm, rfl⟩ := List.mem_map.1 hv
 have := hx x hm
 exact good_u8' (by omega)
theorem feedA_good {x : St} (h : x.right) {xs : List Nat} (hl : xs.length = 20) (hx : ∀ y ∈ xs, y < 256) : goodL (feedA x.q.a x.q.b x.q.c x.q.d x.s x.f x.g (xI xs)) := fun v hv => by
 obtain ⟨h1, h2, h3⟩ := h
 unfold feedA at hv
 rw [vb_nat hl] at hv
 exact (List.mem_append.1 hv).elim (good_in7 (good_16 h1) (good_16 h2) (good_16 h3) v) (good_u8s hx v)
theorem conc_view (a b c d : Wd) (s f g : Int) {xs : List Nat} (hl : xs.length = 20) : concL (getE (feedA a b c d s f g (xI xs))) (opqs 20 7) = u8s xs := by
 match xs, hl with
 | [x0, x1, x2, x3, x4, x5, x6, x7, x8, x9, x10, x11, x12, x13, x14, x15, x16, x17, x18, x19], _ => rfl
end Go.Proofs.YtihgijhjhmjolaaGreatDoor.Xi

/- The reference's Feed of twenty bytes. -/
namespace Go.Proofs.YtihgijhjhmjolaaGreatDoor.Xi
open Go Go.RowKit Go.Deep
set_option linter.unusedVariables false
theorem rputB_ok {r p y : Wd} {s f g : Int} (hs : in16 s) (hf : in16 f) (hg : in16 g) : ∀ ob ∈ rputB (sar16 r) (sar16 p) (sar16 y) s f g, ObOkK Tryz.prog FTab ob := by
 have w : ∀ x : Wd, -32768 ≤ IntKind.i64.wrap (sar16 x) ∧ IntKind.i64.wrap (sar16 x) ≤ 32767 := fun x => by have := wdB x; rw [sar16_eq, IntKind.wrap_i64]; omega
 unfold rputB
 exact obsKA (obsKA (obsKA (obsKA (obsKA (inO_ok hg.1 hg.2) (inO_ok hf.1 hf.2)) (inO_ok hs.1 hs.2)) (inO_ok (w y).1 (w y).2)) (inO_ok (w p).1 (w p).2)) (inO_ok (w r).1 (w r).2)
theorem rRightO_ok (a b c d : Wd) {s f g : Int} (hs : in16 s) (hf : in16 f) (hg : in16 g) : ObOk Tryz.prog (rRightO a b c d s f g true) := fun w => by
 have := rright_calls a b c d s f g (good_in7 (good_16 hs) (good_16 hf) (good_16 hg)) w
 rw [(rightB_iff s f g).2 ⟨hs, hf, hg⟩] at this
 exact this
def feedP (w : World) (x : St) (xs : List Nat) (e : Ending) (w' : World) : Prop :=
 (∃ sv, e = .returned (.tuple #[(x.next xs).val, sv, .int .i64 0]) ∧ Sl w' sv (u8s ((x.next xs).frame (flN xs)))) ∧ Chg w w' []
theorem rfeed_ok {x : St} (hr : x.right) {xs : List Nat} (hl : xs.length = 20) (hx : ∀ y ∈ xs, y < 256) {v : Value} (w : World) (hw : FTab w) (hv : Sl w v (u8s xs)) :
 Calls Tryz.prog 11 #[x.val, v] w fun e w' => feedP w x xs e w' := by
 obtain ⟨h1, h2, h3⟩ := hr
 have hvw : ∀ {α : Type} (i : Nat) cs, ([opqs 20 7] : List (List AV))[i]? = some cs → ∃ u, ([v] : List Value)[i]? = some u ∧ Sl w u (concL (getE (feedA x.q.a x.q.b x.q.c x.q.d x.s x.f x.g (xI xs))) cs) := fun {α} i cs hi => by
  cases i with
  | succ i => simp at hi
  | zero =>
   simp at hi
   subst hi
   exact ⟨v, rfl, by rw [conc_view _ _ _ _ _ _ _ hl]; exact hv⟩
 have hone : ∀ u ∈ ([v] : List Value), u.oneCell' = true := fun u hu => by
  simp at hu
  subst hu
  obtain ⟨A, c, rfl, _⟩ := hv
  rfl
 have hconc : concL (E0 (ρS (feedA x.q.a x.q.b x.q.c x.q.d x.s x.f x.g (xI xs)) [v])) [.agg (opqs 7 0), .vw 1000000 0 20] = [x.val, v] := by
  obtain ⟨A, c, rfl, hc, hA⟩ := hv
  obtain ⟨b, o, rfl, _⟩ := hA (by rw [u8s_length]; omega)
  have e : concL (E0 (ρS (feedA x.q.a x.q.b x.q.c x.q.d x.s x.f x.g (xI xs)) [.slice (some ⟨b, o, none⟩) (u8s xs).length c])) [.agg (opqs 7 0), .vw 1000000 0 20] = [x.val, .slice (some ⟨b, o + 0, none⟩) 20 (c - 0)] := rfl
  rw [e, u8s_length, hl]
  rfl
 have hgood := feedA_good (x := x) ⟨h1, h2, h3⟩ hl hx
 have hsum := sumO_ok hl hx
 cases hs : sumOk xs 18 with
 | true =>
  rw [hs] at hsum
  have en : x.next xs = ⟨nextK x.q.a x.q.b x.q.c x.q.d (xI xs), (x.s + 1) % 65536, x.f, (x.g + 1) % 65536⟩ := by unfold St.next; rw [hs]; rfl
  have ef : flN xs = nextF (xI xs) := by unfold flN; rw [hs]; rfl
  have hF := nextF_in (xI xs)
  have hi := inc16 h1
  have hj := inc16 h3
  have go : ∀ (l : Bool) (br : List (Nat × Bool)) (fl' : Int), runS (cxV rlit fsh br [opqs 20 7]) (tabK ftab) 3000 11 [opqs 20 7] [.agg (opqs 7 0), .vw 1000000 0 20] (feedA x.q.a x.q.b x.q.c x.q.d x.s x.f x.g (xI xs)) =
   some (true, [.v (st4 (nextK x.q.a x.q.b x.q.c x.q.d (xI xs)) (rinc x.s) x.f (rinc x.g)), fframe (nextK x.q.a x.q.b x.q.c x.q.d (xI xs)).a (nextK x.q.a x.q.b x.q.c x.q.d (xI xs)).b (nextK x.q.a x.q.b x.q.c x.q.d (xI xs)).c (nextK x.q.a x.q.b x.q.c x.q.d (xI xs)).d (rinc x.s) x.f (rinc x.g) fl', .v (.int .i64 0)],
    fOk x.q.a x.q.b x.q.c x.q.d x.s x.f x.g (nextF (xI xs)) (xI xs) (nextK x.q.a x.q.b x.q.c x.q.d (xI xs)) l fl') →
   lockB (nextK x.q.a x.q.b x.q.c x.q.d (xI xs)).a (nextK x.q.a x.q.b x.q.c x.q.d (xI xs)).b (nextK x.q.a x.q.b x.q.c x.q.d (xI xs)).c (nextK x.q.a x.q.b x.q.c x.q.d (xI xs)).d = l → fl' = nextF (xI xs) + (bif l then 8 else 0) →
   Calls Tryz.prog 11 #[x.val, v] w fun e w' => feedP w x xs e w' := fun l br fl' hrun hlk hfl => by
   refine (seenF_calls ftab hrun hgood ?_ w hw [v] (hvw (α := Unit)) hone hconc).mono ?_
   · unfold fOk rtellO
     rw [rinc_eq h1, rinc_eq h3]
     have hb : 0 ≤ fl' ∧ fl' ≤ 15 := by rw [hfl]; cases l <;> simp <;> omega
     exact obsKA (obsKA (rputO_ok hb hi h2 hj) (obsKC (obK (oIs_ok (by rw [lockK_eq]; exact hlk))) (obsKC (obK (oGtr_ok (by simp; omega))) (obsKC (obK (oLss_ok (by simp; omega))) (obsKC (obK (rRightO_ok _ _ _ _ hi h2 hj)) obsK0))))) (obsKC (obK hsum) (obsKC (obK (rRightO_ok _ _ _ _ h1 h2 h3)) obsK0))
   · rintro e w' ⟨⟨us, ha, rfl⟩, hc⟩
     match us, ha with
     | [y0, y1, y2], ha =>
      obtain ⟨rfl, h5, rfl, _⟩ := ha
      rw [rinc_eq h1, rinc_eq h3] at h5
      unfold fframe at h5
      have h6 := h5.1
      rw [rBody_nat _ _ _ _ (fl := nextF (xI xs)) hF (by rw [hfl, hlk]), rSeal_nat, u8I_nat] at h6
      unfold feedP
      rw [en, ef, rinc_eq h1, rinc_eq h3]
      exact ⟨⟨y1, rfl, h6⟩, hc⟩
  cases hlk : lockB (nextK x.q.a x.q.b x.q.c x.q.d (xI xs)).a (nextK x.q.a x.q.b x.q.c x.q.d (xI xs)).b (nextK x.q.a x.q.b x.q.c x.q.d (xI xs)).c (nextK x.q.a x.q.b x.q.c x.q.d (xI xs)).d with
  | false => exact go _ _ _ (feed_run0 _ _ _ _ _ _ _ _) hlk (by simp)
  | true => exact go _ _ _ (feed_run1 _ _ _ _ _ _ _ _) hlk (by rw [IntKind.wrap_i64]; simp; omega)
 | false =>
  rw [hs] at hsum
  have en : x.next xs = ⟨x.q, (x.s + 1) % 65536, min (x.f + 1) 65535, x.g⟩ := by unfold St.next; rw [hs]; rfl
  have ef : flN xs = 1 := by unfold flN; rw [hs]; rfl
  have go : ∀ (f' : Int) (l r : Bool) (br : List (Nat × Bool)) (fl : Int), bRun x.q.a x.q.b x.q.c x.q.d x.s x.f x.g (xI xs) br = bRes x.q.a x.q.b x.q.c x.q.d x.s x.f x.g f' (xI xs) l r fl → f' = min (x.f + 1) 65535 → decide (x.f < 65535) = r → lockB x.q.a x.q.b x.q.c x.q.d = l → fl = 1 + (bif l then 8 else 0) →
   Calls Tryz.prog 11 #[x.val, v] w fun e w' => feedP w x xs e w' := fun f' l r br fl hrun hf' hr' hlk hfl => by
   unfold bRun bRes at hrun
   have h16 : in16 f' := by rw [hf']; unfold in16 at *; omega
   have hi := inc16 h1
   refine (seenF_calls ftab hrun hgood ?_ w hw [v] (hvw (α := Unit)) hone hconc).mono ?_
   · unfold bOb
     rw [rinc_eq h1]
     exact obsKA (rputB_ok hi h16 h3) (obsKC (obK (oIs_ok (by rw [lockK_eq]; exact hlk))) (obsKC (obK (rRightO_ok _ _ _ _ hi h16 h3)) (obsKC (obK (oLss_ok hr')) (obsKC (obK hsum) (obsKC (obK (rRightO_ok _ _ _ _ h1 h2 h3)) obsK0)))))
   · rintro e w' ⟨⟨us, ha, rfl⟩, hc⟩
     match us, ha with
     | [y0, y1, y2], ha =>
      obtain ⟨rfl, h5, rfl, _⟩ := ha
      rw [rinc_eq h1] at h5
      unfold fframe at h5
      have h6 := h5.1
      rw [rBody_nat x.q.a x.q.b x.q.c x.q.d (fl := 1) (by omega) (by rw [hfl, hlk]), rSeal_nat, u8I_nat] at h6
      unfold feedP
      rw [en, ef, ← hf', rinc_eq h1]
      exact ⟨⟨y1, rfl, h6⟩, hc⟩
  by_cases hf : x.f < 65535
  · have e1 : IntKind.i64.wrap (x.f + 1) = min (x.f + 1) 65535 := by unfold in16 at h2; rw [IntKind.wrap_i64]; omega
    cases hlk : lockB x.q.a x.q.b x.q.c x.q.d with
    | false => exact go _ _ _ _ _ (bad_run01 _ _ _ _ _ _ _ _) e1 (decide_eq_true hf) hlk rfl
    | true => exact go _ _ _ _ _ (bad_run11 _ _ _ _ _ _ _ _) e1 (decide_eq_true hf) hlk rfl
  · have e1 : x.f = min (x.f + 1) 65535 := by unfold in16 at h2; omega
    cases hlk : lockB x.q.a x.q.b x.q.c x.q.d with
    | false => exact go _ _ _ _ _ (bad_run00 _ _ _ _ _ _ _ _) e1 (decide_eq_false hf) hlk rfl
    | true => exact go _ _ _ _ _ (bad_run10 _ _ _ _ _ _ _ _) e1 (decide_eq_false hf) hlk rfl
end Go.Proofs.YtihgijhjhmjolaaGreatDoor.Xi
