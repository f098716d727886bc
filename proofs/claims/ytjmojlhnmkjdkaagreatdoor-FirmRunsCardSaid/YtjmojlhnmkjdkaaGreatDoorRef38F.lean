/- The firm's law: whatever is fed, all runs leak the same. -/
import Derived.Test.YtjmojlhnmkjdkaaGreatDoorFR21
import Derived.Test.YtjmojlhnmkjdkaaGreatDoorByteRows
import Derived.Sort.QuietTacIn
set_option linter.unusedVariables false
namespace Go.Proofs.YtjmojlhnmkjdkaaGreatDoor
section
open Go Go.RowKit Go.Deep Go.Maps Ab Xi
attribute [local go_sem] Oper.semAt_some
theorem adD {H:Type} {enc:TypeId × Value->H} {P:Program} {w:World} {base:Nat} {held:Bool} {t e u:TypeId} {fuel:Nat} {a0:Option Addr} {n c:Nat} {x:DataW H × List MemPlace}
 (ht:P.underlying t=some (.slice e)) (he:P.underlying e=some (.slice u)) (hu:P.underlying u=some (.int .u8)) (hC:P.cellsOf u=1) (hE:P.cellsOf e=1)
 (h:DataW.trod enc P w base (fun _=>true) held fuel t [.slice a0 n c]=some x):n<=c/\c<=maxLen/\Xi.adC w a0 n:=by
 obtain ⟨h1,h2,_⟩:=O1 ht hE (by omega) h;exact ⟨h1,h2,(Xi.agW ht he hu hC hE h).2⟩
theorem anT {w:World} {A:Option Addr} {n c:Nat} (hc:n<=c) (hR:Xi.adC w A n):∃ ls:List (List Nat),Rows w (.slice A n c) ls/\ls.length=n/\∀ b∈ls,∀ y∈b,y < 256:=by
 by_cases h0:0 < n
 . obtain ⟨b,off,rfl,hall⟩:=hR h0
   have hp:∀ i:Nat,∃ p:Value × List Nat,i < n->w.cell? ⟨b,off+i,Option.none⟩=some p.1/\Sl w p.1 (fJ p.2)/\∀ y∈p.2,y < 256:=fun i=>by
    by_cases hi:i < n
    . obtain ⟨v,hv,A,l,cc,xs,rfl,hs,hl,hm,hb⟩:=hall i hi
      exact ⟨(_,xs),fun _=>⟨hv,hs,hb⟩⟩
    . exact ⟨(undef,[]),fun h=>absurd h hi⟩
   obtain ⟨f,hf⟩:=Classical.axiomOfChoice hp
   have hat:∀ {α:Type} (g:Nat->α) (i:Nat) (r:α),((List.range n).map g)[i]?=some r->i < n/\g i=r:=fun g i r h=>by
    have hi:i < n:=by have:=(List.getElem?_eq_some_iff.1 h).1; simpa using this
    rw [List.getElem?_map,List.getElem?_range hi] at h;exact ⟨hi,Option.some.inj h⟩
   refine ⟨(List.range n).map fun i=>(f i).2,⟨(List.range n).map fun i=>(f i).1,⟨some ⟨b,off,Option.none⟩,c,by simp,by simpa using hc,fun _=>⟨b,off,rfl,fun k hk=>?_⟩⟩,by simp,fun i r l hr hl=>?_⟩,by simp,fun l hl=>?_⟩
   . have hk':k < n:=by simpa using hk
     rw [(hf k hk').1,List.getElem?_map,List.getElem?_range hk'];rfl
   . obtain ⟨hi,rfl⟩:=hat _ i r hr
     obtain ⟨_,rfl⟩:=hat _ i l hl;exact (hf i hi).2.1
   . obtain ⟨i,hi,rfl⟩:=List.mem_map.1 hl
     exact (hf i (List.mem_range.1 hi)).2.2
 . obtain rfl:n=0:=by omega
   exact ⟨[],⟨[],⟨A,c,rfl,Nat.zero_le _,fun h=>absurd h (by simp)⟩,rfl,fun i r b h=>by simp at h⟩,rfl,by simp⟩
end

section
open Go Go.RowKit Go.Deep Go.Maps Ab
attribute [local go_sem] Oper.semAt_some
section
variable {w:World} {b b':Nat} {v v':Value} {ks:List Mk}
end
end

section
open Go Go.RowKit Go.Deep Go.Maps Ab Xi
attribute [local go_sem] Oper.semAt_some
theorem asz {w:World} {v:Value} {b:List Nat} (h:Sl w v (fJ b)) (h0:0 < b.length):∀ k,Xi.dK v=some k->k < w.heap.size:=Ef h (by rw [jT]; exact h0)
def aj7 (w0 w:World) (q c:Nat) (F0:List Nat) (x:Xi.St) (s1 s2 s3 s4 s5:Value):Prop:=∃ s F,FW w q c x s F s1 s2 s3 s4 s5/\Sub F F0 w0
theorem Za {w:World} {v:Value} {ls:List (List Nat)} (h:Rows w v ls) (hmx:ls.length<=9223372036854775807) (hall:¬ (ls.length<=12/\∀ b∈ls,b.length=20)):Calls Tryz.prog 5 #[v] w fun e w'=>e=.returned (.bool false)/\w=w':=by
 by_cases h20:∀ b∈ls,b.length=20
 . have h1:=J9 h h20 hmx
   rwa [decide_eq_false (show ¬ (ls.length:Int)<=12 from fun e=>hall ⟨by omega,h20⟩)] at h1
 . obtain ⟨b0,hb0,hb⟩:∃ b0,b0∈ls/\b0.length≠20:=Classical.byContradiction fun hn=>h20 fun b hb=>Classical.byContradiction fun h=>hn ⟨b,hb,h⟩
   obtain ⟨p,hp⟩:=List.mem_iff_getElem?.1 hb0;exact adB h hp hb hmx
