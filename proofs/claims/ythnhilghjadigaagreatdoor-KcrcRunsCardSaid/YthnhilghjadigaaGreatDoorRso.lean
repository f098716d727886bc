/- Regions whose order is open: objects in memory, each with its own chain of effects. -/
import Derived.Test.YthnhilghjadigaaGreatDoorKC5
import Derived.Test.YthnhilghjadigaaGreatDoorGlo
import Derived.Test.YthnhilghjadigaaGreatDoorKC4
import Derived.Deep.RegionLawGrows
namespace Go.Proofs.YthnhilghjadigaaGreatDoor.Xi
open Go Go.RowKit Go.Proofs.YthnhilghjadigaaGreatDoor
set_option linter.unusedVariables false
abbrev Gh := Nat → Value
def upd (γ : Gh) (k : Nat) (v : Value) : Gh := fun j => if j = k then v else γ j
theorem upd_self (γ : Gh) (k : Nat) (v : Value) : upd γ k v k = v := if_pos rfl
def ancB (ops : Array Oper) (i : Nat) : Nat → Nat → Bool
 | 0, _ => false
 | f + 1, j => Nat.beq j i || (match ops[j]? with
  | some o => o.after.toList.any fun e => Region.binds .any e && ancB ops i f e.on
  | none => false)
theorem anc_ok {ops : Array Oper} {L : Nat → Bool} (hd : Downward ops (fun j => L j = true)) {i : Nat} : ∀ {f j : Nat}, ancB ops i f j = true → L j = true → L i = true
 | 0, j, h, _ => by cases h
 | f + 1, j, h, hj => by
  unfold ancB at h
  rw [Bool.or_eq_true] at h
  rcases h with h | h
  · rw [← beq_iff.1 h]; exact hj
  · split at h
    · rename_i o ho
      obtain ⟨e, he, h2⟩ := List.any_eq_true.1 h
      rw [Bool.and_eq_true] at h2
      exact anc_ok hd h2.2 (hd j o ho hj e (by simpa using he) h2.1)
    · cases h
theorem agree_of {ops : Array Oper} {L : Nat → Bool} (hd : Downward ops (fun j => L j = true)) {val : Gh → Nat → Value} {γ : Gh} {i : Nat} {v : Value} (dep : List Nat) (hdep : (dep.all fun j => ancB ops i 60 j) = true) (hL : L i = false) (hval : ∀ j, j ∉ dep → val (upd γ i v) j = val γ j) :
 ∀ j, L j = true → val (upd γ i v) j = val γ j := fun j hj => hval j fun hm => by
 have := anc_ok hd (List.all_eq_true.1 hdep j hm) hj
 rw [hL] at this
 cases this
abbrev ObjD := Gh → Nat → World → List Nat → Prop
def Stab (o : ObjD) : Prop := ∀ (γ : Gh) (m : Nat) (w w' : World) (F D : List Nat), o γ m w F → Chg w w' D → (∀ k ∈ F, k ∉ D) → (∀ k ∈ D, 8 ≤ k) → o γ m w' F
structure RSW (n : Nat) (ob : Nat → ObjD) (ch : Nat → List Nat) (w0 : World) (D0 : List Nat) (γ : Gh) (L : Nat → Bool) (w : World) : Prop where
 chg : Chg w0 w D0
 ex : ∃ Fs : Nat → List Nat, (∀ j, j < n → ob j γ (cntE L (ch j)) w (Fs j) ∧ Sub (Fs j) D0 w0 ∧ ∀ k ∈ Fs j, k < w.heap.size ∧ 8 ≤ k) ∧ ∀ i j k, i < n → j < n → i ≠ j → k ∈ Fs i → k ∉ Fs j
section
variable {n : Nat} {ob : Nat → ObjD} {ch : Nat → List Nat} {w0 w w' : World} {D0 : List Nat} {γ γ' : Gh} {L L' : Nat → Bool}
theorem RSW.get (h : RSW n ob ch w0 D0 γ L w) (j : Nat) (hj : j < n) {m : Nat} (hm : cntE L (ch j) = m) : ∃ F, ob j γ m w F ∧ (∀ k ∈ F, k < w.heap.size ∧ 8 ≤ k) ∧ Sub F D0 w0 := by
 obtain ⟨Fs, h1, _⟩ := h.ex
 obtain ⟨h2, h3, h4⟩ := h1 j hj
 exact ⟨Fs j, hm ▸ h2, h4, h3⟩
theorem RSW.ext (hl : ∀ j, j < n → ∀ e ∈ ch j, L e = L' e) (h : RSW n ob ch w0 D0 γ L w) : RSW n ob ch w0 D0 γ L' w := by
 obtain ⟨hc, Fs, h1, h2⟩ := h
 refine ⟨hc, Fs, fun j hj => ?_, h2⟩
 rw [← cntE_ext (hl j hj)]
 exact h1 j hj
theorem RSW.same (h : RSW n ob ch w0 D0 γ L w) (i : Nat) (hi : ∀ j, j < n → i ∉ ch j) : RSW n ob ch w0 D0 γ (fun j => if j = i then true else L j) w := by
 obtain ⟨hc0, Fs, h1, h2⟩ := h
 refine ⟨hc0, Fs, fun j hj => ?_, h2⟩
 rw [cntE_keep (hi j hj)]
 exact h1 j hj
end
theorem RSW.apart {n : Nat} {ob : Nat → ObjD} {ch : Nat → List Nat} {w0 w : World} {D0 : List Nat} {γ : Gh} {L : Nat → Bool} (h : RSW n ob ch w0 D0 γ L w) (i j : Nat) (hi : i < n) (hj : j < n) (hij : i ≠ j) {m m' : Nat} (hm : cntE L (ch i) = m) (hm' : cntE L (ch j) = m') :
 ∃ F F', ob i γ m w F ∧ ob j γ m' w F' ∧ (∀ k ∈ F, k ∉ F') := by
 obtain ⟨Fs, h1, h2⟩ := h.ex
 exact ⟨Fs i, Fs j, hm ▸ (h1 i hi).1, hm' ▸ (h1 j hj).1, fun k hk => h2 i j k hi hj hij hk⟩
def Stab0 (o : ObjD) : Prop := ∀ (γ : Gh) (m : Nat) (w w' : World) (F : List Nat), o γ m w F → Chg w w' [] → o γ m w' F
theorem Stab.zero {o : ObjD} (h : Stab o) : Stab0 o := fun γ m w w' F ho hc => h γ m w w' F [] ho hc (by simp) (by simp)
section
variable {n : Nat} {ob : Nat → ObjD} {ch : Nat → List Nat} {w0 w w' : World} {D0 : List Nat} {γ γ' : Gh} {L L' : Nat → Bool}
theorem RSW.quiet0 (hs : ∀ j, j < n → Stab0 (ob j)) (h : RSW n ob ch w0 D0 γ L w) (i : Nat) (hi : ∀ j, j < n → i ∉ ch j) (hc : Chg w w' []) (hγ : ∀ j, j < n → ∀ F, ob j γ (cntE L (ch j)) w F → ob j γ' (cntE L (ch j)) w F) : RSW n ob ch w0 D0 γ' (fun j => if j = i then true else L j) w' := by
 obtain ⟨hc0, Fs, h1, h2⟩ := h
 refine ⟨hc0.trans hc (by simp), Fs, fun j hj => ?_, h2⟩
 obtain ⟨h3, h4, h5⟩ := h1 j hj
 rw [cntE_keep (hi j hj)]
 exact ⟨hs j hj γ' _ w w' (Fs j) (hγ j hj _ h3) hc, h4, fun k hk => ⟨Nat.lt_of_lt_of_le (h5 k hk).1 hc.size, (h5 k hk).2⟩⟩
theorem RSW.eff0 (hs : ∀ j, j < n → Stab0 (ob j)) (hz : 8 ≤ w0.heap.size) (h : RSW n ob ch w0 D0 γ L w) (i j : Nat) (hj : j < n) (hi : ∀ j', j' < n → j' ≠ j → i ∉ ch j') {m : Nat} (hm : cntE L (ch j) = m) (hm' : cntE (fun e => if e = i then true else L e) (ch j) = m + 1) (hc : Chg w w' [])
 (hp : ∀ F, ob j γ m w F → ∃ F', Sub F' F w ∧ (∀ k ∈ F', k < w'.heap.size) ∧ ob j γ' (m + 1) w' F') (hγ : ∀ j', j' < n → j' ≠ j → ∀ F, ob j' γ (cntE L (ch j')) w F → ob j' γ' (cntE L (ch j')) w F) :
 RSW n ob ch w0 D0 γ' (fun e => if e = i then true else L e) w' := by
 obtain ⟨hc0, Fs, h1, h2⟩ := h
 obtain ⟨h3, h4, h5⟩ := h1 j hj
 rw [hm] at h3
 obtain ⟨F', hsub, hlt, ho⟩ := hp _ h3
 have hz1 := hc0.size
 refine ⟨hc0.trans hc (by simp), fun q => if q = j then F' else Fs q, fun q hq => ?_, fun p q k hpn hq hpq hk => ?_⟩
 · by_cases e : q = j
   · subst e
     simp only [if_true]
     rw [hm']
     refine ⟨ho, fun k hk => ?_, fun k hk => ⟨hlt k hk, ?_⟩⟩
     · rcases hsub k hk with h6 | h6
       · exact h4 k h6
       · exact .inr (by omega)
     · rcases hsub k hk with h6 | h6
       · exact (h5 k h6).2
       · omega
   · simp only [if_neg e]
     obtain ⟨h6, h7, h8⟩ := h1 q hq
     rw [cntE_keep (hi q hq e)]
     exact ⟨hs q hq γ' _ w w' (Fs q) (hγ q hq e _ h6) hc, h7, fun k hk => ⟨Nat.lt_of_lt_of_le (h8 k hk).1 hc.size, (h8 k hk).2⟩⟩
 · by_cases e : p = j
   · subst e
     simp only [if_true] at hk
     simp only [if_neg (Ne.symm hpq)]
     rcases hsub k hk with h6 | h6
     · exact h2 p q k hpn hq hpq h6
     · intro h7
       have := ((h1 q hq).2.2 k h7).1
       omega
   · simp only [if_neg e] at hk
     by_cases e2 : q = j
     · subst e2
       simp only [if_true]
       intro h6
       rcases hsub k h6 with h7 | h7
       · exact h2 p q k hpn hq hpq hk h7
       · have := ((h1 p hpn).2.2 k hk).1
         omega
     · simp only [if_neg e2]
       exact h2 p q k hpn hq hpq hk
end
theorem RSW.start {n : Nat} {ob : Nat → ObjD} {ch : Nat → List Nat} {w0 : World} {D0 : List Nat} {γ : Gh} (h : ∀ j, j < n → ob j γ (cntE (fun _ => false) (ch j)) w0.drew []) : RSW n ob ch w0 D0 γ (fun _ => false) w0.drew :=
 ⟨(Chg.refl w0 D0).drew, fun _ => [], fun j hj => ⟨h j hj, by simp [Sub], by simp⟩, by simp⟩
def FactO (i : Nat) (p : Value → World → Prop) : ObjD := fun γ m w F => F = [] ∧ match m with
 | 0 => True
 | _ + 1 => p (γ i) w
theorem FactO.stab0 {i : Nat} {p : Value → World → Prop} (h : ∀ v w w', p v w → Chg w w' [] → p v w') : Stab0 (FactO i p) := fun γ m w w' F ho hc => by
 rcases m with _ | m
 · exact ho
 · exact ⟨ho.1, h _ _ _ ho.2 hc⟩
theorem FactO.make {i : Nat} {p : Value → World → Prop} {γ : Gh} {v : Value} {w w' : World} (h : p v w') : ∀ F, FactO i p γ 0 w F → ∃ F', Sub F' F w ∧ (∀ k ∈ F', k < w'.heap.size) ∧ FactO i p (upd γ i v) (0 + 1) w' F' := fun F hF => by
 obtain ⟨rfl, _⟩ := hF
 exact ⟨[], by simp [Sub], by simp, rfl, by rw [upd_self]; exact h⟩
def BlkO (i : Nat) (t : TypeId) (ze : List Value) (st : Gh → List Value) : ObjD := fun γ m w F => match m with
 | 0 => F = []
 | 1 => ∃ a, γ i = .pointer (some ⟨a, 0, none⟩) ∧ F = [a] ∧ Blk w a t ze
 | _ + 2 => ∃ a, γ i = .pointer (some ⟨a, 0, none⟩) ∧ F = [a] ∧ Blk w a t (st γ)
theorem BlkO.make {i : Nat} {t : TypeId} {ze : List Value} {st : Gh → List Value} {γ : Gh} {w : World} : ∀ F, BlkO i t ze st γ 0 w F → ∃ F', Chg w (w.alloc (.cells ze.toArray t)) F ∧ Sub F' F w ∧ (∀ k ∈ F', k < (w.alloc (.cells ze.toArray t)).heap.size) ∧ BlkO i t ze st (upd γ i (.pointer (some ⟨w.heap.size, 0, none⟩))) (0 + 1) (w.alloc (.cells ze.toArray t)) F' := fun F hF => by
 obtain rfl : F = [] := hF
 refine ⟨[w.heap.size], (Chg.refl w []).alloc _, fun k hk => .inr (by simp at hk; omega), fun k hk => ?_, w.heap.size, upd_self _ _ _, rfl, Blk.new w t ze⟩
 have hk : k = w.heap.size := by simpa using hk
 rw [hk, size_alloc]
 omega
def exT (v : Value) (k : Nat) : Value := match v with
 | .tuple vs => vs.getD k undef
 | _ => undef
end Go.Proofs.YthnhilghjadigaaGreatDoor.Xi
