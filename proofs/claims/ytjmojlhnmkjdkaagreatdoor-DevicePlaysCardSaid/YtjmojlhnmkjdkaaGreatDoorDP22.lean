/- Texts of this claim, side by side. -/
import Derived.Test.YtjmojlhnmkjdkaaGreatDoorDP20
import Derived.Test.YtjmojlhnmkjdkaaGreatDoorOpenD
set_option linter.unusedVariables false
set_option linter.unusedSimpArgs false
namespace Go.Proofs.YtjmojlhnmkjdkaaGreatDoor
namespace Xi
open Go Go.RowKit Go.Deep
open Go.ChangeShapes Go.WideShapes Go.ChangeAt
theorem alR{n:Int}(h:(Lit.int .u8 n).wf=true):0<=n/\n<256:=by
 simp only [Lit.wf,IntKind.min,IntKind.max,IntKind.signed,IntKind.bits] at h;simp at h;omega
theorem akt{z:List Int}(hz:∀ n∈z,(Lit.int .u8 n).wf=true):z.map (Value.int .u8)=bU (z.map Int.toNat):=by
 unfold bU;rw [List.map_map];refine List.map_congr_left fun n hn=>?_;have:=alR (hz n hn);show Value.int .u8 n=.int .u8 (n.toNat:Int);rw [Int.toNat_of_nonneg this.1]
theorem toNat_lt{z:List Int}(hz:∀ n∈z,(Lit.int .u8 n).wf=true):∀ y∈z.map Int.toNat,y<256:=by
 intro y hy;obtain⟨n,hn,rfl⟩:=List.mem_map.1 hy;have:=alR (hz n hn);omega
def axE(w:World)(v:Value):Prop:=∃(A:Option Addr) (l c:Nat) (xs:List Nat),v=.slice A l c/\Sl w (.slice A l c) (bU xs)/\xs.length=l/\l<=maxLen/\∀ y∈xs,y<256
theorem open_row{H:Type}{enc:TypeId×Value->H}{P:Program}{w:World}{base:Nat}{held:Bool}{e u:TypeId}{fuel:Nat}{v:Value}{x:DataW H×List MemPlace}
 (he:P.underlying e=some (.slice u)) (hu:P.underlying u=some (.int .u8)) (hC:P.cellsOf u=1)
 (h:DataW.trod enc P w base (fun _=>true) held fuel e [v]=some x):axE w v:=by
 rcases open_ints he hu hC h with⟨hcs,_⟩ | ⟨x,l,c,zs,hcs,_,hl,hm,hz,_,hcell,hwz⟩
 . injection hcs with hcs
   subst hcs;exact⟨none,0,0,[],rfl,IE _,rfl,Nat.zero_le _,by simp⟩
 . injection hcs with hcs
   subst hcs;have hs:=Sl.aor (k:=.u8) (w:=w) (a:=some x) (len:=l) (cap:=c) (zs:=zs) (.inr ⟨_,rfl,hl,hm,by simpa using hz,hcell,hwz⟩);obtain⟨h1,h2,h3,h4⟩:=hs;rw [akt h4] at h1;exact⟨_,_,_,_,rfl,h1,by simpa using h2,h3,toNat_lt h4⟩
end Xi

section
open Go Go.RowKit Go.Deep Xi
open Go.ChangeShapes Go.WideShapes Go.ChangeAt
attribute [local go_sem] Oper.semAt_some
abbrev lG:=Bool×List Nat
def O_(w:World)(A:Option Addr)(ds:List lG):Prop:=0<ds.length->∃ b off,A=some ⟨b,off,Option.none⟩/\∀(k:Nat) (d:lG),ds[k]?=some d->∃(B:Option Addr) (cb:Nat),w.cell? ⟨b,off+k*2,Option.none⟩=some (.bool d.1)/\w.cell? ⟨b,off+k*2+1,Option.none⟩=some (.slice B d.2.length cb)/\Sl w (.slice B d.2.length cb) (bU d.2)
theorem O_.at_{w:World}{A:Option Addr}{ds:List lG}(h:O_ w A ds){k:Nat}{d:lG}(hk:ds[k]?=some d):∃ b off B cb,A=some ⟨b,off,Option.none⟩/\w.cell? ⟨b,off+k*2,Option.none⟩=some (.bool d.1)/\w.cell? ⟨b,off+k*2+1,Option.none⟩=some (.slice B d.2.length cb)/\Sl w (.slice B d.2.length cb) (bU d.2):=by
 have h0:=(List.getElem?_eq_some_iff.1 hk).1;obtain⟨b,off,rfl,hx⟩:=h (by omega);obtain⟨B,cb,c1,c2,c3⟩:=hx k d hk;exact⟨b,off,B,cb,rfl,c1,c2,c3⟩
def IW(ds:List lG)(m:Int):Bool:=ds.all (fun d=>decide (d.2.length<=100))&&decide ((ds.length:Int)<=m)
theorem Yk{ds:List lG}{m:Int}(h:IW ds m=true):(∀ d∈ds,d.2.length<=100)/\(ds.length:Int)<=m:=by
 unfold IW at h;simp only [Bool.and_eq_true,List.all_eq_true,decide_eq_true_eq] at h;exact h
theorem aon{ds:List lG}{k:Nat}{d:lG}(hk:ds[k]?=some d)(h:100<d.2.length)(m:Int):IW ds m=false:=by
 cases hb:IW ds m with
 | false=>rfl
 | true=>exact absurd ((Yk hb).1 d (List.mem_of_getElem? hk)) (by omega)
theorem aku{ds:List lG}(h:∀ d∈ds,d.2.length<=100)(m:Int):IW ds m=decide ((ds.length:Int)<=m):=by
 have:ds.all (fun d=>decide (d.2.length<=100))=true:=List.all_eq_true.2 fun d hd=>decide_eq_true (h d hd);unfold IW;rw [this,Bool.true_and]
set_option maxRecDepth 100000 in
theorem ahf {w:World} {A:Option Addr} {ds:List lG} {c:Nat} (m:Int) (hs:O_ w A ds) (hl:ds.length<=maxLen) (hln:∀ d∈ds,d.2.length<=maxLen) :
 Calls Tryz.prog 14 #[.slice A ds.length c,.int .i64 m] w fun e w'=>e=.returned (.bool (IW ds m))/\w'=w:=by
 have HX:=hide hs;have HL:=hide hln;unfold maxLen at hl;clear hs hln;go_enter Tryz.func14,Tryz.ntmps14
 go_wp2;go_loop [5] (fun i=>∃ k:Nat,k<=ds.length/\i=.int .i64 k/\Hid (∀ d∈ds.take k,d.2.length<=100)) (fun i=>ds.length - (intOf i).toNat)
 case atStart=>exact⟨0,Nat.zero_le _,rfl,hide (by simp)⟩
 case round =>
  obtain⟨k,hk,rfl,HI⟩:=hrel;by_cases hlt:k<ds.length
  . obtain⟨d,hd⟩:∃ d,ds[k]?=some d:=⟨ds[k],by simp [hlt]⟩
    obtain⟨b,off,B,cb,rfl,hc1,hc2,_⟩:=HX.out.at_ hd;have HT:=hide (show ds.take (k+1)=ds.take k++[d] by rw [List.take_add_one,hd]; rfl);have HF:=hide (fun h=>aon hd h m);have hlm:=HL.out d (List.mem_of_getElem? hd);unfold maxLen at hlm;clear hd;by_cases h100:100<d.2.length
    . have HE:=hide (HF.out h100)
      go_wp2;go_ret;exact⟨by rw [HE.out]; rfl,rfl⟩
    . go_wp2
      go_round
      case rel =>
       refine⟨k+1,by omega,by go_num,hide ?_⟩;rw [HT.out];intro d hd;rw [List.mem_append] at hd;rcases hd with hd | hd
       . exact HI.out d hd
       . simp at hd; subst hd; omega
      case measure=>simp [intOf]; omega
  . have hk2:k=ds.length:=by omega
    subst hk2;have HE:=hide (aku (m:=m) (by have:=HI.out; rwa [List.take_length] at this));clear HI;go_wp2;go_ret;exact⟨by rw [HE.out]; rfl,rfl⟩
theorem KL{P:Nat->lG->Prop}:∀ n,(∀ i,i<n->∃ d,P i d)->∃ ds:List lG,ds.length=n/\∀ i d,ds[i]?=some d->P i d
 | 0,_=>⟨[],rfl,fun i d h=>by simp at h⟩
 | n+1,h=>by
  obtain⟨ds,hl,hd⟩:=KL n (fun i hi=>h i (by omega));obtain⟨d,hp⟩:=h n (by omega);refine⟨ds++[d],by simp [hl],fun i e he=>?_⟩;by_cases hi:i<ds.length
  . rw [List.getElem?_append_left hi] at he
    exact hd i e he
  . have h1:=(List.getElem?_eq_some_iff.1 he).1
    have hin:i=n:=by simp at h1; omega
    subst hin;rw [<- hl,List.getElem?_append_right (Nat.le_refl _),Nat.sub_self] at he;obtain rfl:=Option.some.inj he;exact hp
theorem adU{H:Type}{enc:TypeId×Value->H}{P:Program}{w:World}{base:Nat}{held:Bool}{t e b u v:TypeId}{fuel:Nat}{a0:Option Addr}{n c:Nat}{x:DataW H×List MemPlace}
 (ht:P.underlying t=some (.slice e)) (hE:P.cellsOf e=2) (hlv:leaves P 1 e=[b,u]) (hok:uo P 1 e=true) (hb:P.underlying b=some .bool) (hu:P.underlying u=some (.slice v)) (hv:P.underlying v=some (.int .u8)) (hC:P.cellsOf v=1)
 (h:DataW.trod enc P w base (fun _=>true) held fuel t [.slice a0 n c]=some x):∃ ds:List lG,O_ w a0 ds/\ds.length=n/\n<=maxLen/\∀ d∈ds,d.2.length<=maxLen/\∀ y∈d.2,y<256:=by
 obtain⟨h1,h2,h3⟩:=adT ht hE (by omega) h
 have key:∀ i,i<n->∃ d:lG,(d.2.length<=maxLen/\∀ y∈d.2,y<256)/\∃ bk off,a0=some ⟨bk,off,Option.none⟩/\∃(B:Option Addr) (cb:Nat),w.cell? ⟨bk,off+i*2,Option.none⟩=some (.bool d.1)/\w.cell? ⟨bk,off+i*2+1,Option.none⟩=some (.slice B d.2.length cb)/\Sl w (.slice B d.2.length cb) (bU d.2):=by
  intro i hi;obtain⟨bk,off,rfl,hall⟩:=h3 (by omega);obtain⟨cs,m,y,hl,hc,hy⟩:=hall i hi;have hL:=Zi 1 e hok m cs y (by rw [hl,hlv]; rfl) hy;rw [hlv] at hL;obtain⟨r,q0⟩:=ahe hb (hL 0 b rfl);obtain⟨m',y',s,q1,hs⟩:=hL 1 u rfl;obtain⟨B,l,cb,xs,rfl,g1,rfl,g3,g4⟩:=open_row hu hv hC hs;exact⟨(r,xs),⟨g3,g4⟩,bk,off,rfl,B,cb,(hc 0 (by omega)).trans q0,(hc 1 (by omega)).trans q1,g1⟩
 obtain⟨ds,hl,hd⟩:=KL n key;refine⟨ds,fun h0=>?_,hl,Nat.le_trans h1 h2,fun d hm=>?_⟩
 . obtain⟨bk,off,rfl,_⟩:=h3 (by omega)
   refine⟨bk,off,rfl,fun k d hk=>?_⟩;obtain⟨_,bk',off',e,hx⟩:=hd k d hk;injection e with e; injection e with e1 e2 _;subst e1 e2;exact hx
 . obtain⟨i,hi⟩:=List.mem_iff_getElem?.1 hm
   exact(hd i d hi).1
