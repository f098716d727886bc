/- Regions whose order is open: objects in memory, each with its own chain of effects. -/
import Derived.Test.YtjcgiddgafjdpaaGreatDoorFQ5
import Derived.Test.YtjcgiddgafjdpaaGreatDoorGlo
import Derived.Test.YtjcgiddgafjdpaaGreatDoorFQ4
import Derived.Deep.RegionLawGrows
namespace Go.Proofs.YtjcgiddgafjdpaaGreatDoor.Xi
open Go Go.RowKit Go.Proofs.YtjcgiddgafjdpaaGreatDoor
set_option linter.unusedVariables false
abbrev Gh:=Nat→Value
def upd (γ:Gh) (k:Nat) (v:Value):Gh:=fun j => if j = k then v else γ j
theorem jq (γ:Gh) (k:Nat) (v:Value):upd γ k v k = v:=if_pos rfl
theorem upd_ne (γ:Gh) {k j:Nat} (v:Value) (h:j≠k):upd γ k v j = γ j:=if_neg h
def YZ (ops:Array Oper) (i:Nat):Nat→Nat→Bool
 | 0,_ => false
 | f + 1,j => Nat.beq j i || (match ops[j]? with
  | some o => o.after.toList.any fun e => Region.binds .any e && YZ ops i f e.on
  | none => false)
theorem abQ {ops:Array Oper} {L:Nat→Bool} (hd:oh ops (fun j => L j = true)) {i:Nat}:∀ {f j:Nat},YZ ops i f j = true→L j = true→L i = true
 | 0,j,h,_ => by cases h
 | f + 1,j,h,hj => by
  unfold YZ at h
  rw [Bool.or_eq_true] at h
  rcases h with h | h
  · rw [← beq_iff.1 h]; exact hj
  · split at h
    · rename_i o ho
      obtain ⟨e,he,h2⟩:=List.any_eq_true.1 h
      rw [Bool.and_eq_true] at h2
      exact abQ hd h2.2 (hd j o ho hj e (by simpa using he) h2.1)
    · cases h
theorem oK {ops:Array Oper} {L:Nat→Bool} (hd:oh ops (fun j => L j = true)) {val:Gh→Nat→Value} {γ:Gh} {i:Nat} {v:Value} (dep:List Nat) (hdep:(dep.all fun j => YZ ops i 60 j) = true) (hL:L i = false) (hval:∀ j,j∉dep→val (upd γ i v) j = val γ j) :
 ∀ j,L j = true→val (upd γ i v) j = val γ j:=fun j hj => hval j fun hm => by
 have:=abQ hd (List.all_eq_true.1 hdep j hm) hj
 rw [hL] at this
 cases this
abbrev Eb:=Gh→Nat→World→List Nat→Prop
structure bH (n:Nat) (ob:Nat→Eb) (ch:Nat→List Nat) (w0:World) (D0:List Nat) (γ:Gh) (L:Nat→Bool) (w:World):Prop where
 aj:ah w0 w D0
 ex:∃ Fs:Nat→List Nat,(∀ j,j < n→ob j γ (aU L (ch j)) w (Fs j)∧Sub (Fs j) D0 w0∧∀ k∈Fs j,k < w.heap.size∧8≤k)∧∀ i j k,i < n→j < n→i≠j→k∈Fs i→k∉Fs j
section
variable {n:Nat} {ob:Nat→Eb} {ch:Nat→List Nat} {w0 w w':World} {D0:List Nat} {γ γ':Gh} {L L':Nat→Bool}
theorem bH.get (h:bH n ob ch w0 D0 γ L w) (j:Nat) (hj:j < n) {m:Nat} (hm:aU L (ch j) = m):∃ F,ob j γ m w F∧(∀ k∈F,k < w.heap.size∧8≤k)∧Sub F D0 w0:=by
 obtain ⟨Fs,h1,_⟩:=h.ex
 obtain ⟨h2,h3,h4⟩:=h1 j hj
 exact ⟨Fs j,hm ▸ h2,h4,h3⟩
theorem bH.ext (hl:∀ j,j < n→∀ e∈ch j,L e = L' e) (h:bH n ob ch w0 D0 γ L w):bH n ob ch w0 D0 γ L' w:=by
 obtain ⟨hc,Fs,h1,h2⟩:=h
 refine ⟨hc,Fs,fun j hj => ?_,h2⟩
 rw [← B_ (hl j hj)]
 exact h1 j hj
theorem bH.same (h:bH n ob ch w0 D0 γ L w) (i:Nat) (hi:∀ j,j < n→i∉ch j):bH n ob ch w0 D0 γ (fun j => if j = i then true else L j) w:=by
 obtain ⟨hc0,Fs,h1,h2⟩:=h
 refine ⟨hc0,Fs,fun j hj => ?_,h2⟩
 rw [fA (hi j hj)]
 exact h1 j hj
end
def Fh (o:Eb):Prop:=∀ (γ:Gh) (m:Nat) (w w':World) (F:List Nat),o γ m w F→ah w w' []→o γ m w' F
section
variable {n:Nat} {ob:Nat→Eb} {ch:Nat→List Nat} {w0 w w':World} {D0:List Nat} {γ γ':Gh} {L L':Nat→Bool}
theorem bH.ak8 (hs:∀ j,j < n→Fh (ob j)) (h:bH n ob ch w0 D0 γ L w) (i:Nat) (hi:∀ j,j < n→i∉ch j) (hc:ah w w' []) (hγ:∀ j,j < n→∀ F,ob j γ (aU L (ch j)) w F→ob j γ' (aU L (ch j)) w F):bH n ob ch w0 D0 γ' (fun j => if j = i then true else L j) w':=by
 obtain ⟨hc0,Fs,h1,h2⟩:=h
 refine ⟨hc0.trans hc (by simp),Fs,fun j hj => ?_,h2⟩
 obtain ⟨h3,h4,h5⟩:=h1 j hj
 rw [fA (hi j hj)]
 exact ⟨hs j hj γ' _ w w' (Fs j) (hγ j hj _ h3) hc,h4,fun k hk => ⟨Nat.lt_of_lt_of_le (h5 k hk).1 hc.size,(h5 k hk).2⟩⟩
theorem bH.apH (hs:∀ j,j < n→Fh (ob j)) (hz:8≤w0.heap.size) (h:bH n ob ch w0 D0 γ L w) (i j:Nat) (hj:j < n) (hi:∀ j',j' < n→j'≠j→i∉ch j') {m:Nat} (hm:aU L (ch j) = m) (hm':aU (fun e => if e = i then true else L e) (ch j) = m + 1) (hc:ah w w' [])
 (hp:∀ F,ob j γ m w F→∃ F',Sub F' F w∧(∀ k∈F',k < w'.heap.size)∧ob j γ' (m + 1) w' F') (hγ:∀ j',j' < n→j'≠j→∀ F,ob j' γ (aU L (ch j')) w F→ob j' γ' (aU L (ch j')) w F) :
 bH n ob ch w0 D0 γ' (fun e => if e = i then true else L e) w':=by
 obtain ⟨hc0,Fs,h1,h2⟩:=h
 obtain ⟨h3,h4,h5⟩:=h1 j hj
 rw [hm] at h3
 obtain ⟨F',hsub,hlt,ho⟩:=hp _ h3
 have hz1:=hc0.size
 refine ⟨hc0.trans hc (by simp),fun q => if q = j then F' else Fs q,fun q hq => ?_,fun p q k hpn hq hpq hk => ?_⟩
 · by_cases e:q = j
   · subst e
     simp only [if_true]
     rw [hm']
     refine ⟨ho,fun k hk => ?_,fun k hk => ⟨hlt k hk,?_⟩⟩
     · rcases hsub k hk with h6 | h6
       · exact h4 k h6
       · exact .inr (by omega)
     · rcases hsub k hk with h6 | h6
       · exact (h5 k h6).2
       · omega
   · simp only [if_neg e]
     obtain ⟨h6,h7,h8⟩:=h1 q hq
     rw [fA (hi q hq e)]
     exact ⟨hs q hq γ' _ w w' (Fs q) (hγ q hq e _ h6) hc,h7,fun k hk => ⟨Nat.lt_of_lt_of_le (h8 k hk).1 hc.size,(h8 k hk).2⟩⟩
 · by_cases e:p = j
   · subst e
     simp only [if_true] at hk
     simp only [if_neg (Ne.symm hpq)]
     rcases hsub k hk with h6 | h6
     · exact h2 p q k hpn hq hpq h6
     · intro h7
       have:=((h1 q hq).2.2 k h7).1
       omega
   · simp only [if_neg e] at hk
     by_cases e2:q = j
     · subst e2
       simp only [if_true]
       intro h6
       rcases hsub k h6 with h7 | h7
       · exact h2 p q k hpn hq hpq hk h7
       · have:=((h1 p hpn).2.2 k hk).1
         omega
     · simp only [if_neg e2]
       exact h2 p q k hpn hq hpq hk
end
theorem bH.start {n:Nat} {ob:Nat→Eb} {ch:Nat→List Nat} {w0:World} {D0:List Nat} {γ:Gh} (h:∀ j,j < n→ob j γ (aU (fun _ => false) (ch j)) w0.drew []):bH n ob ch w0 D0 γ (fun _ => false) w0.drew :=
 ⟨(ah.refl w0 D0).drew,fun _ => [],fun j hj => ⟨h j hj,by simp [Sub],by simp⟩,by simp⟩
def wR (i:Nat) (p:Value→World→Prop):Eb:=fun γ m w F => F = []∧match m with
 | 0 => True
 | _ + 1 => p (γ i) w
theorem wR.anE {i:Nat} {p:Value→World→Prop} (h:∀ v w w',p v w→ah w w' []→p v w'):Fh (wR i p):=fun γ m w w' F ho hc => by
 rcases m with _ | m
 · exact ho
 · exact ⟨ho.1,h _ _ _ ho.2 hc⟩
theorem wR.make {i:Nat} {p:Value→World→Prop} {γ:Gh} {v:Value} {w w':World} (h:p v w'):∀ F,wR i p γ 0 w F→∃ F',Sub F' F w∧(∀ k∈F',k < w'.heap.size)∧wR i p (upd γ i v) (0 + 1) w' F':=fun F hF => by
 obtain ⟨rfl,_⟩:=hF
 exact ⟨[],by simp [Sub],by simp,rfl,by rw [jq]; exact h⟩
def exT (v:Value) (k:Nat):Value:=match v with
 | .tuple vs => vs.getD k undef
 | _ => undef
end Go.Proofs.YtjcgiddgafjdpaaGreatDoor.Xi
