/- Regions whose order is open: objects in memory, each with its own chain of effects. -/
import Derived.Test.YtjmojlhnmkjdkaaGreatDoorDP8
import Derived.Test.YtjmojlhnmkjdkaaGreatDoorGloD
import Derived.Deep.RegionLawGrows
set_option linter.unusedVariables false
namespace Go.Proofs.YtjmojlhnmkjdkaaGreatDoor.Xi
open Go Go.RowKit Go.Proofs.YtjmojlhnmkjdkaaGreatDoor
abbrev Gh:=Nat->Value
def upd(γ:Gh)(k:Nat)(v:Value):Gh:=fun j=>if j=k then v else γ j
theorem mX(γ:Gh)(k:Nat)(v:Value):upd γ k v k=v:=if_pos rfl
theorem upd_ne(γ:Gh){k j:Nat}(v:Value)(h:j≠k):upd γ k v j=γ j:=if_neg h
def acL (ops:Array Oper) (i:Nat):Nat->Nat->Bool
 | 0,_=>false
 | f+1,j=>Nat.beq j i||(match ops[j]? with
  | some o=>o.after.toList.any fun e=>Region.binds .any e&&acL ops i f e.on
  | none=>false)
theorem af4{ops:Array Oper}{L:Nat->Bool}(hd:qF ops (fun j=>L j=true)){i:Nat}:∀ {f j:Nat},acL ops i f j=true->L j=true->L i=true
 | 0,j,h,_=>by cases h
 | f+1,j,h,hj=>by
  unfold acL at h;rw [Bool.or_eq_true] at h;rcases h with h | h
  . rw [<- beq_iff.1 h]; exact hj
  . split at h
    . rename_i o ho
      obtain⟨e,he,h2⟩:=List.any_eq_true.1 h;rw [Bool.and_eq_true] at h2;exact af4 hd h2.2 (hd j o ho hj e (by simpa using he) h2.1)
    . cases h
theorem qW{ops:Array Oper}{L:Nat->Bool}(hd:qF ops (fun j=>L j=true)){val:Gh->Nat->Value}{γ:Gh}{i:Nat}{v:Value}(dep:List Nat)(hdep:(dep.all fun j=>acL ops i 60 j)=true)(hL:L i=false)(hval:∀ j,j∉dep->val (upd γ i v) j=val γ j) :
 ∀ j,L j=true->val (upd γ i v) j=val γ j:=fun j hj=>hval j fun hm=>by
 have:=af4 hd (List.all_eq_true.1 hdep j hm) hj;rw [hL] at this;cases this
abbrev FH:=Gh->Nat->World->List Nat->Prop
def Qd(o:FH):Prop:=∀(γ:Gh) (m:Nat) (w w':World) (F D:List Nat),o γ m w F->ah w w' D->(∀ k∈F,k∉D)->(∀ k∈D,11<=k)->o γ m w' F
structure iP (n:Nat) (ob:Nat->FH) (ch:Nat->List Nat) (w0:World) (D0:List Nat) (γ:Gh) (L:Nat->Bool) (w:World):Prop where
 aj:ah w0 w D0
 ex:∃ Fs:Nat->List Nat,(∀ j,j<n->ob j γ (aX L (ch j)) w (Fs j)/\Sub (Fs j) D0 w0/\∀ k∈Fs j,k<w.heap.size/\11<=k)/\∀ i j k,i<n->j<n->i≠j->k∈Fs i->k∉Fs j
section
variable {n:Nat} {ob:Nat->FH} {ch:Nat->List Nat} {w0 w w':World} {D0:List Nat} {γ γ':Gh} {L L':Nat->Bool}
theorem iP.get(h:iP n ob ch w0 D0 γ L w)(j:Nat)(hj:j<n){m:Nat}(hm:aX L (ch j)=m):∃ F,ob j γ m w F/\(∀ k∈F,k<w.heap.size/\11<=k)/\Sub F D0 w0:=by
 obtain⟨Fs,h1,_⟩:=h.ex;obtain⟨h2,h3,h4⟩:=h1 j hj;exact⟨Fs j,hm▸h2,h4,h3⟩
theorem iP.ext(hl:∀ j,j<n->∀ e∈ch j,L e=L' e)(h:iP n ob ch w0 D0 γ L w):iP n ob ch w0 D0 γ L' w:=by
 obtain⟨hc,Fs,h1,h2⟩:=h;refine⟨hc,Fs,fun j hj=>?_,h2⟩;rw [<- FD (hl j hj)];exact h1 j hj
theorem iP.same(h:iP n ob ch w0 D0 γ L w)(i:Nat)(hi:∀ j,j<n->i∉ch j):iP n ob ch w0 D0 γ (fun j=>if j=i then true else L j) w:=by
 obtain⟨hc0,Fs,h1,h2⟩:=h;refine⟨hc0,Fs,fun j hj=>?_,h2⟩;rw [fC (hi j hj)];exact h1 j hj
theorem iP.eff(hs:∀ j,j<n->Qd (ob j))(hz:11<=w0.heap.size)(h:iP n ob ch w0 D0 γ L w)(i j:Nat)(hj:j<n)(hi:∀ j',j'<n->j'≠j->i∉ch j'){m:Nat}(hm:aX L (ch j)=m)(hm':aX (fun e=>if e=i then true else L e) (ch j)=m+1)
 (hp:∀ F,ob j γ m w F->∃ F',ah w w' F/\Sub F' F w/\(∀ k∈F',k<w'.heap.size)/\ob j γ' (m+1) w' F') (hγ:∀ j',j'<n->j'≠j->∀ F,ob j' γ (aX L (ch j')) w F->ob j' γ' (aX L (ch j')) w F) :
 iP n ob ch w0 D0 γ' (fun e=>if e=i then true else L e) w':=by
 obtain⟨hc0,Fs,h1,h2⟩:=h;obtain⟨h3,h4,h5⟩:=h1 j hj;rw [hm] at h3;obtain⟨F',hc,hsub,hlt,ho⟩:=hp _ h3;have hz1:=hc0.size;refine⟨hc0.trans hc (fun k hk=>h4 k hk),fun q=>if q=j then F' else Fs q,fun q hq=>?_,fun p q k hpn hq hpq hk=>?_⟩
 . by_cases e:q=j
   . subst e
     simp only [if_true];rw [hm'];refine⟨ho,fun k hk=>?_,fun k hk=>⟨hlt k hk,?_⟩⟩
     . rcases hsub k hk with h6 | h6
       . exact h4 k h6
       . exact .inr (by omega)
     . rcases hsub k hk with h6 | h6
       . exact(h5 k h6).2
       . omega
   . simp only [if_neg e]
     obtain⟨h6,h7,h8⟩:=h1 q hq;rw [fC (hi q hq e)];exact⟨hs q hq γ' _ w w' (Fs q) (Fs j) (hγ q hq e _ h6) hc (fun k hk=>h2 q j k hq hj e hk) (fun k hk=>(h5 k hk).2),h7,fun k hk=>⟨Nat.lt_of_lt_of_le (h8 k hk).1 hc.size,(h8 k hk).2⟩⟩
 . by_cases e:p=j
   . subst e
     simp only [if_true] at hk;simp only [if_neg (Ne.symm hpq)];rcases hsub k hk with h6 | h6
     . exact h2 p q k hpn hq hpq h6
     . intro h7
       have:=((h1 q hq).2.2 k h7).1;omega
   . simp only [if_neg e] at hk
     by_cases e2:q=j
     . subst e2
       simp only [if_true];intro h6;rcases hsub k h6 with h7 | h7
       . exact h2 p q k hpn hq hpq hk h7
       . have:=((h1 p hpn).2.2 k hk).1
         omega
     . simp only [if_neg e2]
       exact h2 p q k hpn hq hpq hk
end
theorem iP.apart{n:Nat}{ob:Nat->FH}{ch:Nat->List Nat}{w0 w:World}{D0:List Nat}{γ:Gh}{L:Nat->Bool}(h:iP n ob ch w0 D0 γ L w)(i j:Nat)(hi:i<n)(hj:j<n)(hij:i≠j){m m':Nat}(hm:aX L (ch i)=m)(hm':aX L (ch j)=m') :
 ∃ F F',ob i γ m w F/\ob j γ m' w F'/\(∀ k∈F,k∉F'):=by
 obtain⟨Fs,h1,h2⟩:=h.ex;exact⟨Fs i,Fs j,hm▸(h1 i hi).1,hm'▸(h1 j hj).1,fun k hk=>h2 i j k hi hj hij hk⟩
section
variable {n:Nat} {ob:Nat->FH} {ch:Nat->List Nat} {w0 w w':World} {D0:List Nat} {γ γ':Gh} {L L':Nat->Bool}
end
theorem iP.start{n:Nat}{ob:Nat->FH}{ch:Nat->List Nat}{w0:World}{D0:List Nat}{γ:Gh}(h:∀ j,j<n->ob j γ (aX (fun _=>false) (ch j)) w0.drew []):iP n ob ch w0 D0 γ (fun _=>false) w0.drew :=
 ⟨(ah.refl w0 D0).drew,fun _=>[],fun j hj=>⟨h j hj,by simp [Sub],by simp⟩,by simp⟩
def FK(i:Nat)(t:TypeId)(ze:List Value)(st:Gh->List Value):FH:=fun γ m w F=>match m with
 | 0=>F=[]
 | 1=>∃ a,γ i=.pointer (some ⟨a,0,none⟩)/\F=[a]/\aC w a t ze
 | _+2=>∃ a,γ i=.pointer (some ⟨a,0,none⟩)/\F=[a]/\aC w a t (st γ)
theorem FK.ai8(i:Nat)(t:TypeId)(ze:List Value)(st:Gh->List Value):Qd (FK i t ze st):=fun γ m w w' F D h hc hF hD=>by
 rcases m with _ | _ | m
 . exact h
 . obtain⟨a,h1,rfl,h2⟩:=h
   exact⟨a,h1,rfl,h2.aj hc (hF a (by simp))⟩
 . obtain⟨a,h1,rfl,h2⟩:=h
   exact⟨a,h1,rfl,h2.aj hc (hF a (by simp))⟩
theorem FK.make{i:Nat}{t:TypeId}{ze:List Value}{st:Gh->List Value}{γ:Gh}{w:World}:∀ F,FK i t ze st γ 0 w F->∃ F',ah w (w.alloc (.cells ze.toArray t)) F/\Sub F' F w/\(∀ k∈F',k<(w.alloc (.cells ze.toArray t)).heap.size)/\FK i t ze st (upd γ i (.pointer (some ⟨w.heap.size,0,none⟩))) (0+1) (w.alloc (.cells ze.toArray t)) F':=fun F hF=>by
 obtain rfl:F=[]:=hF;refine⟨[w.heap.size],(ah.refl w []).alloc _,fun k hk=>.inr (by simp at hk; omega),fun k hk=>?_,w.heap.size,mX _ _ _,rfl,aC.new w t ze⟩;have hk:k=w.heap.size:=by simpa using hk
 rw [hk,size_alloc];omega
def rZ (v:Value) (k:Nat):Value:=match v with
 | .tuple vs=>vs.getD k undef
 | _=>undef
