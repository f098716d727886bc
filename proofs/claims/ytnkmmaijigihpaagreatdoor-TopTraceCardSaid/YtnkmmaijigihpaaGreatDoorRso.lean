/- Regions whose order is open: objects in memory, each with its own chain of effects. -/
import Derived.Test.YtnkmmaijigihpaaGreatDoorTT8
import Derived.Test.YtnkmmaijigihpaaGreatDoorGlo
import Derived.Deep.RegionLawGrows
set_option linter.unusedVariables false
namespace Go.Proofs.YtnkmmaijigihpaaGreatDoor.Xi
open Go Go.RowKit Go.Proofs.YtnkmmaijigihpaaGreatDoor
abbrev Gh:=Nat->Value
def upd (γ:Gh) (k:Nat) (v:Value):Gh:=fun j => if j = k then v else γ j
theorem mY (γ:Gh) (k:Nat) (v:Value):upd γ k v k = v:=if_pos rfl
theorem upd_ne (γ:Gh) {k j:Nat} (v:Value) (h:j≠k):upd γ k v j = γ j:=if_neg h
def ZI (ops:Array Oper) (i:Nat):Nat->Nat->Bool
 | 0,_ => false
 | f + 1,j => Nat.beq j i || (match ops[j]? with
  | some o => o.after.toList.any fun e => Region.binds .any e && ZI ops i f e.on
  | none => false)
theorem acC {ops:Array Oper} {L:Nat->Bool} (hd:jQ ops (fun j => L j = true)) {i:Nat}:∀ {f j:Nat},ZI ops i f j = true->L j = true->L i = true
 | 0,j,h,_ => by cases h
 | f + 1,j,h,hj => by
  unfold ZI at h;rw [Bool.or_eq_true] at h;rcases h with h | h
  . rw [<- beq_iff.1 h]; exact hj
  . split at h
    . rename_i o ho
      obtain ⟨e,he,h2⟩:=List.any_eq_true.1 h;rw [Bool.and_eq_true] at h2;exact acC hd h2.2 (hd j o ho hj e (by simpa using he) h2.1)
    . cases h
theorem uo {ops:Array Oper} {L:Nat->Bool} (hd:jQ ops (fun j => L j = true)) {val:Gh->Nat->Value} {γ:Gh} {i:Nat} {v:Value} (dep:List Nat) (hdep:(dep.all fun j => ZI ops i 60 j) = true) (hL:L i = false) (hval:∀ j,j∉dep->val (upd γ i v) j = val γ j) :
 ∀ j,L j = true->val (upd γ i v) j = val γ j:=fun j hj => hval j fun hm => by
 have:=acC hd (List.all_eq_true.1 hdep j hm) hj;rw [hL] at this;cases this
abbrev afp:=Gh->Nat->World->List Nat->Prop
structure RSW (n:Nat) (ob:Nat->afp) (ch:Nat->List Nat) (w0:World) (D0:List Nat) (γ:Gh) (L:Nat->Bool) (w:World):Prop where
 aj:ah w0 w D0
 ex:∃ Fs:Nat->List Nat,(∀ j,j < n->ob j γ (bI L (ch j)) w (Fs j)/\Sub (Fs j) D0 w0/\∀ k∈Fs j,k < w.heap.size/\11<=k)/\∀ i j k,i < n->j < n->i≠j->k∈Fs i->k∉Fs j
section
variable {n:Nat} {ob:Nat->afp} {ch:Nat->List Nat} {w0 w w':World} {D0:List Nat} {γ γ':Gh} {L L':Nat->Bool}
end
section
variable {n:Nat} {ob:Nat->afp} {ch:Nat->List Nat} {w0 w w':World} {D0:List Nat} {γ γ':Gh} {L L':Nat->Bool}
end
def EM (v:Value) (k:Nat):Value:=match v with
 | .tuple vs => vs.getD k undef
 | _ => undef
end Go.Proofs.YtnkmmaijigihpaaGreatDoor.Xi
