/- Slices of slices of bytes, as they are handed in. -/
import Derived.Test.YtjmojlhnmkjdkaaGreatDoorFR20
import Derived.Test.YtjmojlhnmkjdkaaGreatDoorOpen
namespace Go.Proofs.YtjmojlhnmkjdkaaGreatDoor.Xi
open Go Go.RowKit Go.Deep
open Go.ChangeShapes Go.WideShapes Go.ChangeAt
theorem alr {n:Int} (h:(Lit.int .u8 n).wf=true):0<=n/\n < 256:=by
 simp only [Lit.wf,IntKind.min,IntKind.max,IntKind.signed,IntKind.bits] at h;simp at h;omega
theorem aj6 {z:List Int} (hz:∀ n∈z,(Lit.int .u8 n).wf=true):z.map (Value.int .u8)=fJ (z.map Int.toNat):=by
 unfold fJ;rw [List.map_map];refine List.map_congr_left fun n hn=>?_;have:=alr (hz n hn);show Value.int .u8 n=.int .u8 (n.toNat:Int);rw [Int.toNat_of_nonneg this.1]
theorem toNat_lt {z:List Int} (hz:∀ n∈z,(Lit.int .u8 n).wf=true):∀ y∈z.map Int.toNat,y < 256:=by
 intro y hy;obtain ⟨n,hn,rfl⟩:=List.mem_map.1 hy;have:=alr (hz n hn);omega
def asy (w:World) (v:Value):Prop:=∃ (A:Option Addr) (l c:Nat) (xs:List Nat),v=.slice A l c/\Sl w (.slice A l c) (fJ xs)/\xs.length=l/\l<=maxLen/\∀ y∈xs,y < 256
def adC (w:World) (A:Option Addr) (n:Nat):Prop:=0 < n->∃ b off,A=some ⟨b,off,none⟩/\∀ i,i < n->∃ v,w.cell? ⟨b,off+i,none⟩=some v/\asy w v
theorem open_row {H:Type} {enc:TypeId × Value->H} {P:Program} {w:World} {base:Nat} {held:Bool} {e u:TypeId} {fuel:Nat} {v:Value} {x:DataW H × List MemPlace}
 (he:P.underlying e=some (.slice u)) (hu:P.underlying u=some (.int .u8)) (hC:P.cellsOf u=1)
 (h:DataW.trod enc P w base (fun _=>true) held fuel e [v]=some x):asy w v:=by
 rcases open_ints he hu hC h with ⟨hcs,_⟩ | ⟨x,l,c,zs,hcs,_,hl,hm,hz,_,hcell,hwz⟩
 . injection hcs with hcs
   subst hcs;exact ⟨none,0,0,[],rfl,arT _,rfl,Nat.zero_le _,by simp⟩
 . injection hcs with hcs
   subst hcs;have hs:=Sl.anU (k:=.u8) (w:=w) (a:=some x) (len:=l) (cap:=c) (zs:=zs) (.inr ⟨_,rfl,hl,hm,by simpa using hz,hcell,hwz⟩);obtain ⟨h1,h2,h3,h4⟩:=hs;rw [aj6 h4] at h1;exact ⟨_,_,_,_,rfl,h1,by simpa using h2,h3,toNat_lt h4⟩
theorem agW {H:Type} {enc:TypeId × Value->H} {P:Program} {w:World} {base:Nat} {held:Bool} {t e u:TypeId} {fuel:Nat} {a0:Option Addr} {n c:Nat} {x:DataW H × List MemPlace}
 (ht:P.underlying t=some (.slice e)) (he:P.underlying e=some (.slice u)) (hu:P.underlying u=some (.int .u8)) (hC:P.cellsOf u=1) (hE:P.cellsOf e=1)
 (h:DataW.trod enc P w base (fun _=>true) held fuel t [.slice a0 n c]=some x):n<=maxLen/\adC w a0 n:=by
 obtain ⟨h1,h2,h3⟩:=O1 ht hE (by omega) h;refine ⟨Nat.le_trans h1 h2,fun h0=>?_⟩;obtain ⟨b,off,rfl,hall⟩:=h3 h0;refine ⟨b,off,rfl,fun i hi=>?_⟩;obtain ⟨cs,m,y,hl,hc,hy⟩:=hall i hi
 match cs,hl with
 | [v],_ =>
  have:=hc 0 (by omega);rw [Nat.mul_one,Nat.add_zero] at this;exact ⟨v,this,open_row he hu hC hy⟩
