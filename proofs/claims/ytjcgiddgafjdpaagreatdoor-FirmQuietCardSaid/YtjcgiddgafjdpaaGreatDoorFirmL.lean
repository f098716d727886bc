/- The firm's laws: rows as they are handed in; what the firm refuses. -/
import Derived.Test.YtjcgiddgafjdpaaGreatDoorFQ20
import Derived.Test.YtjcgiddgafjdpaaGreatDoorOpen
import Derived.WalkKit
import Derived.ProofKit
import Derived.OpenShut
import Derived.Test.YtjcgiddgafjdpaaGreatDoorFQ21
namespace Go.Proofs.YtjcgiddgafjdpaaGreatDoor.Xi
open Go Go.RowKit Go.Deep
open Go.ChangeShapes Go.WideShapes Go.ChangeAt
theorem agf {n:Int} (h:(Lit.int .u8 n).wf = true):0≤n∧n < 256:=by
 simp only [Lit.wf,IntKind.min,IntKind.max,IntKind.signed,IntKind.bits] at h
 simp at h
 omega
theorem afb {z:List Int} (hz:∀ n∈z,(Lit.int .u8 n).wf = true):z.map (Value.int .u8) = gX (z.map Int.toNat):=by
 unfold gX
 rw [List.map_map]
 refine List.map_congr_left fun n hn => ?_
 have:=agf (hz n hn)
 show Value.int .u8 n = .int .u8 (n.toNat:Int)
 rw [Int.toNat_of_nonneg this.1]
theorem toNat_lt {z:List Int} (hz:∀ n∈z,(Lit.int .u8 n).wf = true):∀ y∈z.map Int.toNat,y < 256:=by
 intro y hy
 obtain ⟨n,hn,rfl⟩:=List.mem_map.1 hy
 have:=agf (hz n hn)
 omega
def amK (w:World) (v:Value):Prop:=∃ (A:Option Addr) (l c:Nat) (xs:List Nat),v = .slice A l c∧Sl w (.slice A l c) (gX xs)∧xs.length = l∧l≤maxLen∧∀ y∈xs,y < 256
def Zt (w:World) (A:Option Addr) (n:Nat):Prop:=0 < n→∃ b off,A = some ⟨b,off,none⟩∧∀ i,i < n→∃ v,w.cell? ⟨b,off + i,none⟩ = some v∧amK w v
theorem open_row {H:Type} {enc:TypeId × Value→H} {P:Program} {w:World} {base:Nat} {held:Bool} {e u:TypeId} {fuel:Nat} {v:Value} {x:DataW H × List MemPlace}
 (he:P.underlying e = some (.slice u)) (hu:P.underlying u = some (.int .u8)) (hC:P.cellsOf u = 1)
 (h:DataW.trod enc P w base (fun _ => true) held fuel e [v] = some x):amK w v:=by
 rcases open_ints he hu hC h with ⟨hcs,_⟩ | ⟨x,l,c,zs,hcs,_,hl,hm,hz,_,hcell,hwz⟩
 · injection hcs with hcs
   subst hcs
   exact ⟨none,0,0,[],rfl,amd _,rfl,Nat.zero_le _,by simp⟩
 · injection hcs with hcs
   subst hcs
   have hs:=Sl.aip (k:=.u8) (w:=w) (a:=some x) (len:=l) (cap:=c) (zs:=zs) (.inr ⟨_,rfl,hl,hm,by simpa using hz,hcell,hwz⟩)
   obtain ⟨h1,h2,h3,h4⟩:=hs
   rw [afb h4] at h1
   exact ⟨_,_,_,_,rfl,h1,by simpa using h2,h3,toNat_lt h4⟩
theorem acz {H:Type} {enc:TypeId × Value→H} {P:Program} {w:World} {base:Nat} {held:Bool} {t e u:TypeId} {fuel:Nat} {a0:Option Addr} {n c:Nat} {x:DataW H × List MemPlace}
 (ht:P.underlying t = some (.slice e)) (he:P.underlying e = some (.slice u)) (hu:P.underlying u = some (.int .u8)) (hC:P.cellsOf u = 1) (hE:P.cellsOf e = 1)
 (h:DataW.trod enc P w base (fun _ => true) held fuel t [.slice a0 n c] = some x):n≤maxLen∧Zt w a0 n:=by
 obtain ⟨h1,h2,h3⟩:=J4 ht hE (by omega) h
 refine ⟨Nat.le_trans h1 h2,fun h0 => ?_⟩
 obtain ⟨b,off,rfl,hall⟩:=h3 h0
 refine ⟨b,off,rfl,fun i hi => ?_⟩
 obtain ⟨cs,m,y,hl,hc,hy⟩:=hall i hi
 match cs,hl with
 | [v],_ =>
  have:=hc 0 (by omega)
  rw [Nat.mul_one,Nat.add_zero] at this
  exact ⟨v,this,open_row he hu hC hy⟩
end Go.Proofs.YtjcgiddgafjdpaaGreatDoor.Xi

namespace Go.Proofs.YtjcgiddgafjdpaaGreatDoor
open Go Go.RowKit Go.Deep Go.Maps Go.Proofs.YtjcgiddgafjdpaaGreatDoor.Ab Go.Proofs.YtjcgiddgafjdpaaGreatDoor.Xi
set_option linter.unusedVariables false
attribute [local go_sem] Oper.semAt_some
theorem Zu {H:Type} {enc:TypeId × Value→H} {P:Program} {w:World} {base:Nat} {held:Bool} {t e u:TypeId} {fuel:Nat} {a0:Option Addr} {n c:Nat} {x:DataW H × List MemPlace}
 (ht:P.underlying t = some (.slice e)) (he:P.underlying e = some (.slice u)) (hu:P.underlying u = some (.int .u8)) (hC:P.cellsOf u = 1) (hE:P.cellsOf e = 1)
 (h:DataW.trod enc P w base (fun _ => true) held fuel t [.slice a0 n c] = some x):n≤c∧c≤maxLen∧Xi.Zt w a0 n:=by
 obtain ⟨h1,h2,_⟩:=J4 ht hE (by omega) h
 exact ⟨h1,h2,(Xi.acz ht he hu hC hE h).2⟩
theorem aio {w:World} {A:Option Addr} {n c:Nat} (hc:n≤c) (hR:Xi.Zt w A n):∃ ls:List (List Nat),Rows w (.slice A n c) ls∧ls.length = n∧∀ b∈ls,∀ y∈b,y < 256:=by
 by_cases h0:0 < n
 · obtain ⟨b,off,rfl,hall⟩:=hR h0
   have hp:∀ i:Nat,∃ p:Value × List Nat,i < n→w.cell? ⟨b,off + i,Option.none⟩ = some p.1∧Sl w p.1 (gX p.2)∧∀ y∈p.2,y < 256:=fun i => by
    by_cases hi:i < n
    · obtain ⟨v,hv,A,l,cc,xs,rfl,hs,hl,hm,hb⟩:=hall i hi
      exact ⟨(_,xs),fun _ => ⟨hv,hs,hb⟩⟩
    · exact ⟨(undef,[]),fun h => absurd h hi⟩
   obtain ⟨f,hf⟩:=Classical.axiomOfChoice hp
   have hat:∀ {α:Type} (g:Nat→α) (i:Nat) (r:α),((List.range n).map g)[i]? = some r→i < n∧g i = r:=fun g i r h => by
    have hi:i < n:=by have:=(List.getElem?_eq_some_iff.1 h).1; simpa using this
    rw [List.getElem?_map,List.getElem?_range hi] at h
    exact ⟨hi,Option.some.inj h⟩
   refine ⟨(List.range n).map fun i => (f i).2,⟨(List.range n).map fun i => (f i).1,⟨some ⟨b,off,Option.none⟩,c,by simp,by simpa using hc,fun _ => ⟨b,off,rfl,fun k hk => ?_⟩⟩,by simp,fun i r l hr hl => ?_⟩,by simp,fun l hl => ?_⟩
   · have hk':k < n:=by simpa using hk
     rw [(hf k hk').1,List.getElem?_map,List.getElem?_range hk']
     rfl
   · obtain ⟨hi,rfl⟩:=hat _ i r hr
     obtain ⟨_,rfl⟩:=hat _ i l hl
     exact (hf i hi).2.1
   · obtain ⟨i,hi,rfl⟩:=List.mem_map.1 hl
     exact (hf i (List.mem_range.1 hi)).2.2
 · obtain rfl:n = 0:=by omega
   exact ⟨[],⟨[],⟨A,c,rfl,Nat.zero_le _,fun h => absurd h (by simp)⟩,rfl,fun i r b h => by simp at h⟩,rfl,by simp⟩
end Go.Proofs.YtjcgiddgafjdpaaGreatDoor
