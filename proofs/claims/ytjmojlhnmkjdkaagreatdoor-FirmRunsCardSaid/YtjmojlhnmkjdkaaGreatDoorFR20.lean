/- Texts of this claim, side by side. -/
import Derived.Test.YtjmojlhnmkjdkaaGreatDoorFR19
import Derived.Deep.Cut
set_option linter.unusedVariables false
set_option linter.unusedSimpArgs false
namespace Go.Proofs.YtjmojlhnmkjdkaaGreatDoor
section
open Go.RowKit Go.Deep Xi
def arU (w5:World) (B1:Nat) (p0 p1 p2 p3 p4 p5 p6:Value):World:=((((((w5.setCell ⟨B1,0,none⟩ p0).setCell ⟨B1,1,none⟩ p1).setCell ⟨B1,2,none⟩ p2).setCell ⟨B1,3,none⟩ p3).setCell ⟨B1,4,none⟩ p4).setCell ⟨B1,5,none⟩ p5).setCell ⟨B1,6,none⟩ p6
theorem XV (w5:World) (B1:Nat) (p0 p1 p2 p3 p4 p5 p6:Value):ah w5 (arU w5 B1 p0 p1 p2 p3 p4 p5 p6) [B1]:=(((((((ah.refl w5 [B1]).setCell ⟨B1,0,none⟩ p0 (.inl (by simp))).setCell ⟨B1,1,none⟩ p1 (.inl (by simp))).setCell ⟨B1,2,none⟩ p2 (.inl (by simp))).setCell ⟨B1,3,none⟩ p3 (.inl (by simp))).setCell ⟨B1,4,none⟩ p4 (.inl (by simp))).setCell ⟨B1,5,none⟩ p5 (.inl (by simp))).setCell ⟨B1,6,none⟩ p6 (.inl (by simp))
theorem ajS {w5:World} {B1:Nat} {t:TypeId} {z0 z1 z2 z3 z4 z5 z6:Value} (k1:aC w5 B1 t [z0,z1,z2,z3,z4,z5,z6]) (p0 p1 p2 p3 p4 p5 p6:Value):aC (arU w5 B1 p0 p1 p2 p3 p4 p5 p6) B1 t [p0,p1,p2,p3,p4,p5,p6]:=(((((((k1.bC 0 p0)).bC 1 p1).bC 2 p2).bC 3 p3).bC 4 p4).bC 5 p5).bC 6 p6
end

namespace Xi
open Go Go.RowKit Go.Deep
theorem j_ (x:St) (fl:Int):(x.frame fl).length=32:=rfl
theorem anN (a b c d:Wd) (s f g:Int) {fl:Int} (h:0<=fl/\fl<=7):∀ y∈Jz a b c d s f g fl,y < 256:=fun y hy=>by
 have h1:(fl+(bif iP a b c d then 8 else 0)).toNat < 256:=by cases iP a b c d<;>simp<;>omega
 simp only [Jz,b2,b4,List.cons_append,List.nil_append,List.mem_cons,List.not_mem_nil,or_false] at hy;rcases hy with rfl | rfl | hy
 . decide
 . exact h1
 . rcases hy with rfl | rfl | rfl | rfl | rfl | rfl | rfl | rfl | rfl | rfl | rfl | rfl | rfl | rfl | rfl | rfl | rfl | rfl | rfl | rfl | rfl | rfl | rfl | rfl | rfl | rfl | rfl | rfl<;>exact uh _ _
theorem wM (x:St) {fl:Int} (h:0<=fl/\fl<=7):∀ y∈x.frame fl,y < 256:=LU (anN _ _ _ _ _ _ _ h)
theorem zN {w:World} {v:Value} {xs:List Nat} (h:Sl w v (fJ xs)) (hx:∀ x∈xs,x < 256):(convert 29 9 v).run Tryz.prog w=.ok (.string (strOfNums (nI xs))) w:=by
 refine ajU (Bs.anM (z:=nI xs) ?_ ?_)
 . unfold nI; rw [List.map_map]; exact h
 . intro n hn
   obtain ⟨y,hy,rfl⟩:=List.mem_map.1 hn;have:=hx y hy;simp [Lit.wf,IntKind.min,IntKind.max,IntKind.signed,IntKind.bits];omega
theorem XZ (s:ByteArray):(s.toList==s.toList)=true:=by simp
def St.cells (x:St):List Value:=[.int .i32 x.q.a.v,.int .i32 x.q.b.v,.int .i32 x.q.c.v,.int .i32 x.q.d.v,.int .i64 x.s,.int .i64 x.f,.int .i64 x.g]
end Xi
section
open Go.RowKit Go.Deep Xi
def q1:Q4:=⟨kW 1073741824,kW 0,kW 0,kW 0⟩
def st0:St:=⟨q1,0,0,0⟩
def z20:List Nat:=List.replicate 20 0
theorem CO:st0.right:=by unfold St.right st0 iI; simp
theorem aaM:u_ z20 18=false:=by decide +kernel
theorem ajV:st0.next z20=⟨q1,1,1,0⟩:=by unfold St.next; rw [aaM]; rfl
theorem agK:iq z20=1:=by unfold iq; rw [aaM]; rfl
theorem anO:iP q1.a q1.b q1.c q1.d=false:=by decide +kernel
end

namespace Xi
open Go Go.RowKit Go.Deep
theorem dh.aj0 {fp fp':List Nat} {w:World} (hs:∀ k∈fp',k∈fp):∀ {l:List Value} {cs:List CA},dh fp w l cs->dh fp' w l cs
 | [],[],_=>trivial
 | a :: l,.v x :: cs,h=>⟨h.1,dh.aj0 hs h.2⟩
 | a :: l,.l xs :: cs,h=>⟨⟨h.1.1,fun A n c e hm=>h.1.2 A n c e (hs _ hm)⟩,dh.aj0 hs h.2⟩
 | [],_ :: _,h=>h.elim
 | _ :: _,[],h=>h.elim
theorem Y5 {cx:Cx} {tab:Tab} {fuel:Nat} {f:FuncId} {vws:List (List AV)} {args:List AV} {ins:List Value} {t:Bool} {cas:List CA} {obs:List Ob} (fH:cx.P.follows .mixedOrders=true) (hmt:vO cx) {K:World->Prop} (hT:MQ cx.P K tab) (hvw:cx.vw=Dh vws)
 (h:AU cx tab fuel f vws args ins=some (t,cas,obs)) (hg:fC ins) (ho:∀ ob∈obs,kF cx.P K ob) (w:World) (gs:List Nat) (hgs:∀ k∈gs,k < w.heap.size) (hK:∀ w1:World,(∀ k∈gs,w1.heap[k]?=w.heap[k]?)->K w1) (ss:List Value)
 (hss:∀ (i:Nat) cs,vws[i]?=some cs->∃ v,ss[i]?=some v/\Sl w v (au (dX ins) cs)) (h1:∀ v∈ss,v.oneCell'=true) {vals:List Value} (hvs:au (E0 (ρS ins ss)) args=vals) :
 Calls cx.P f vals.toArray w fun e w'=>(∃ us,dh gs w' us cas/\e=.returned (Lc t us))/\ah w w' []:=by
 unfold AU at h
 cases hc:iJ cx fuel f args ⟨.nil,0,aF ins⟩ with
 | none=>rw [hc] at h; cases h
 | some q =>
  obtain ⟨v,g',δ⟩:=q;rw [hc] at h;simp only [] at h
  cases hk:(iD 0 args && wC (aF ins) args && okV (aF ins) vws) with
  | false=>rw [hk] at h; cases h
  | true =>
   rw [hk] at h;simp only [cond_true] at h;simp only [Bool.and_eq_true] at hk;obtain ⟨⟨k1,k2⟩,k3⟩:=hk
   cases hr:tK cx tab δ ins [] with
   | none=>rw [hr] at h; cases h
   | some q2 =>
    obtain ⟨ρ,obs'⟩:=q2;rw [hr] at h;simp only [] at h
    cases hlen:Nat.ble (aF ρ) 1000000 with
    | false=>rw [hlen] at h; cases h
    | true =>
     rw [hlen] at h;rw [bF] at hlen;unfold aF at hlen;simp only [cond_true] at h
     cases he:wX g' v with
     | none=>rw [he] at h; cases h
     | some q3 =>
      obtain ⟨t',xs⟩:=q3;rw [he] at h;simp only [] at h
      cases hx:ZQ (aF ρ) xs with
      | false=>rw [hx] at h; cases h
      | true =>
       rw [hx] at h;injection h with h; injection h with e1 h; injection h with e2 e3;subst e1 e2 e3;have NJ:∀ w1:World,(∀ k∈gs ++ ((ss.filterMap dK).filter fun b=>decide (b < w.heap.size)),k < w1.heap.size/\w1.heap[k]?=w.heap[k]?)->K w1:=fun w1 h=>hK w1 fun k hk=>(h k (List.mem_append.2 (.inl hk))).2;obtain ⟨⟨τ,hτ⟩,hgρ,_,hrun⟩:=tN (M:=BX cx.P w (gs ++ ((ss.filterMap dK).filter fun b=>decide (b < w.heap.size))) K NJ) (fun s f cas v hs=>hs) hT hr hg ho;have hF:Ext ρ (ρS ρ ss):=VQ ρ ss
       have hone:∀ i,(ρS ρ ss i).oneCell'=true:=fun i=>by
        unfold ρS;split
        . rename_i hi
          simp only [List.getD,List.getElem?_eq_getElem hi,Option.getD_some];exact GY (hgρ _ (List.getElem_mem hi))
        . cases hj:ss[i - 1000000]? with
          | none=>rw [List.getD,hj]; rfl
          | some u=>rw [List.getD,hj]; exact h1 u (List.mem_of_getElem? hj)
       have hvk:∀ i cs,cx.vw i=some cs->∃ b a n c,ρS ρ ss i=.slice (some ⟨b,a,none⟩) n c/\cs.length<=c/\iD 0 cs=true/\b∈ss.filterMap dK/\b < w.heap.size/\∀ k v,cs[k]?=some v->∀ E:Env,E.ρ=ρS ρ ss->w.cell? ⟨b,a+k,none⟩=some (v.aA E):=fun i cs hi=>by
        rw [hvw] at hi;unfold Dh at hi
        cases hb:Nat.ble 1000000 i with
        | false=>rw [hb] at hi; cases hi
        | true =>
         rw [hb] at hi;rw [bF] at hb;simp only [cond_true] at hi;rw [nJ] at hi;obtain ⟨z1,z2,z3⟩:=NH k3 hi;obtain ⟨u,hu,hsl⟩:=hss _ _ hi;obtain ⟨A,c,rfl,hcap,hcell⟩:=hsl;rw [aX] at hcap hcell;obtain ⟨b,a,rfl,hcell2⟩:=hcell (by omega);refine ⟨b,a,cs.length,c,?_,hcap,z1,?_,?_,?_⟩
         . unfold ρS
           rw [if_neg (by omega),List.getD,hu,aX]; rfl
         . exact List.mem_filterMap.2 ⟨_,List.mem_of_getElem? hu,rfl⟩
         . have:=hcell2 0 (by omega)
           unfold World.cell? at this
           cases hb':w.heap[b]? with
           | none =>
            simp only [hb'] at this;rw [eq_comm,List.getElem?_eq_none_iff,aX] at this;omega
           | some o=>exact lt_of_heap hb'
         . intro k y hy E hE
           have hk':k < cs.length:=(List.getElem?_eq_some_iff.1 hy).1;rw [hcell2 k hk',bZ,List.getElem?_map,hy];show some (y.aA (dX ins))=some (y.aA E)
           have MR:Ext ins (ρS ρ ss):=by
            have:=hF;rw [hτ] at this ⊢;exact this.of_append
           have e4:au (E0 (ρS ρ ss)) cs=au (dX ins) cs:=jr MR cs z2;rw [bZ,bZ] at e4;have e5:=congrArg (fun l=>l[k]?) e4;simp only [List.getElem?_map,hy,Option.map_some] at e5;rw [<- e5]
           have z4:y.lt 0=true:=by
            unfold AV.lt;rw [aI,pow_eq];refine dQ fun q hq=>?_;have:=kE z1 (fE (List.mem_of_getElem? hy) hq);omega
           rw [oG (E:=E0 (ρS ρ ss)) (E':=E) z4 hE]
       have hI:(BX cx.P w (gs ++ ((ss.filterMap dK).filter fun b=>decide (b < w.heap.size))) K NJ).I () w:=fun k hk=>⟨(List.mem_append.1 hk).elim (hgs k) (fun hk=>by have:=(List.mem_filter.1 hk).2; simpa using this),rfl⟩
       obtain ⟨_,hcall⟩:=z_ (M:=BX cx.P w (gs ++ ((ss.filterMap dK).filter fun b=>decide (b < w.heap.size))) K NJ) (ρv:=ρS ρ ss) fH hmt hone (fun i cs hi=>by
        obtain ⟨b,a,n,c,y1,y2,y3,y4,y5,y6⟩:=hvk i cs hi;refine ⟨b,a,n,c,y1,y2,y3,fun s w1 hw1=>?_⟩;have hm:b∈gs ++ ((ss.filterMap dK).filter fun b=>decide (b < w.heap.size)):=List.mem_append.2 (.inr (List.mem_filter.2 ⟨y4,by simpa using y5⟩));refine ⟨hm,fun k u hu E hE=>?_⟩;have:=y6 k u hu E hE;unfold World.cell? at this ⊢;rw [show w1.heap[b]?=w.heap[b]? from (hw1 b hm).2]
        exact this) fuel |>.2 f args ⟨.nil,0,aF ins⟩ v g' δ hc
       have hrep:Rep (BX cx.P w (gs ++ ((ss.filterMap dK).filter fun b=>decide (b < w.heap.size))) K NJ) (E0 (ρS ρ ss)) () (⟨.nil,0,aF ins⟩:G).at 0 w:=⟨hI,(fun b B hb=>by have:=dR hb; cases this),(fun b b' B B' hb=>by have:=dR hb; cases this),(fun b B hb=>by have:=dR hb; cases this),(fun b B hb=>dR hb)⟩
       have hcl:=hcall (E0 (ρS ρ ss)) () () w rfl hrep (fun u hu=>by
        unfold AV.lt;rw [aI,pow_eq];refine dQ fun q hq=>?_;have:=kE k1 (fE hu hq)
        omega) (hrun _ hF ())
       have Hy:au (E0 (ρS ρ ss)) args=vals:=by
        rw [<- hvs];subst hτ;exact oH hlen args k2
       rw [Hy] at hcl;refine hcl.mono ?_;rintro e w' ⟨E',rfl,hw⟩;refine ⟨?_,?_⟩
       . have eρ:E'.ρ=ρS ρ ss:=hw.rho
         have fin:∀ {l:List AV},eargs g' l=some xs->dh gs w' (au E' l) (xs.map (EA.aA (dX ρ))):=fun {l} hl=>by
          have:=dh.aj0 (fp':=gs) (fun k hk=>List.mem_append.2 (.inl hk)) (uN hw.rep hl);rw [eρ,Ld hF hx] at this;exact this
         unfold wX at he;split at he
         . rename_i vs _
           cases hvs':eargs g' vs with
           | none=>rw [hvs'] at he; cases he
           | some l =>
            rw [hvs'] at he;injection he with he; injection he with he1 he2;subst he1 he2;exact ⟨_,fin hvs',rfl⟩
         . cases hv':Gx g' v with
           | none=>rw [hv'] at he; cases he
           | some x =>
            rw [hv'] at he;injection he with he; injection he with he1 he2;subst he1 he2;exact ⟨[v.aA E'],fin (l:=[v]) (by simp only [eargs,hv']),rfl⟩
       . refine ⟨hw.fr.os,hw.fr.tape,hw.fr.output,hw.fr.size,fun k hk _=>?_⟩
         by_cases hm:k∈gs ++ ((ss.filterMap dK).filter fun b=>decide (b < w.heap.size))
         . exact (hw.rep.rW k hm).2
         . refine hw.fr.block k hk fun hd=>?_
           rcases hd with hd | ⟨b,B,hb,_⟩
           . exact hm hd
           . have:=dR hb; cases this
theorem Iz {lits:List (FuncId × AV)} {shs:List (FuncId × Sh)} {br:List (Nat × Bool)} (tab:List (LJ ug)) {fuel:Nat} {f:FuncId} {vws:List (List AV)} {args:List AV} {ins:List Value} {t:Bool} {cas:List CA} {obs:List Ob}
 (h:AU (NG lits shs br vws) (Dl tab) fuel f vws args ins=some (t,cas,obs)) (hg:fC ins) (ho:∀ ob∈obs,kF Tryz.prog ug ob) (w:World) (hw:ug w) (D:List Nat) (hD:∀ k∈D,k < w.heap.size) (ss:List Value)
 (hss:∀ (i:Nat) cs,vws[i]?=some cs->∃ v,ss[i]?=some v/\Sl w v (au (dX ins) cs)) (h1:∀ v∈ss,v.oneCell'=true) {vals:List Value} (hvs:au (E0 (ρS ins ss)) args=vals) :
 Calls Tryz.prog f vals.toArray w fun e w'=>(∃ us,dh D w' us cas/\e=.returned (Lc t us))/\ah w w' [] :=
 (Y5 (cx:=NG lits shs br vws) (by kernel_rfl) (fun t n g h=>by cases h) (P_ tab) rfl h hg ho w D hD (fun w1 hk=>trivial) ss hss h1 hvs).mono fun e w' h=>h
def IB (D:List Nat) (w:World) (x:St) (xs:List Nat) (e:Ending) (w':World):Prop :=
 (∃ sv,e=.returned (.tuple #[(x.next xs).val,sv,.int .i64 0])/\Sl w' sv (fJ ((x.next xs).frame (iq xs)))/\∀ A n c,sv=.slice (some A) n c->A.block∉D)/\ah w w' []
theorem agM {x:St} (hr:x.right) {xs:List Nat} (hl:xs.length=20) (hx:∀ y∈xs,y < 256) {v:Value} (w:World) (hw:ug w) (D:List Nat) (hD:∀ k∈D,k < w.heap.size) (hv:Sl w v (fJ xs)) :
 Calls Tryz.prog 25 #[x.val,v] w fun e w'=>IB D w x xs e w':=by
 obtain ⟨h1,h2,h3⟩:=hr
 have hvw:∀ {α:Type} (i:Nat) cs,([bQ 20 7]:List (List AV))[i]?=some cs->∃ u,([v]:List Value)[i]?=some u/\Sl w u (au (dX (xg x.q.a x.q.b x.q.c x.q.d x.s x.f x.g (xI xs))) cs):=fun {α} i cs hi=>by
  cases i with
  | succ i=>simp at hi
  | zero =>
   simp at hi;subst hi;exact ⟨v,rfl,by rw [agF _ _ _ _ _ _ _ hl]; exact hv⟩
 have hone:∀ u∈([v]:List Value),u.oneCell'=true:=fun u hu=>by
  simp at hu;subst hu;obtain ⟨A,c,rfl,_⟩:=hv;rfl
 have TR:au (E0 (ρS (xg x.q.a x.q.b x.q.c x.q.d x.s x.f x.g (xI xs)) [v])) [.agg (bQ 7 0),.vw 1000000 0 20]=[x.val,v]:=by
  obtain ⟨A,c,rfl,hc,hA⟩:=hv;obtain ⟨b,o,rfl,_⟩:=hA (by rw [jT]; omega);have e:au (E0 (ρS (xg x.q.a x.q.b x.q.c x.q.d x.s x.f x.g (xI xs)) [.slice (some ⟨b,o,none⟩) (fJ xs).length c])) [.agg (bQ 7 0),.vw 1000000 0 20]=[x.val,.slice (some ⟨b,o+0,none⟩) 20 (c - 0)]:=rfl;rw [e,jT,hl];rfl
 have hgood:=adz (x:=x) ⟨h1,h2,h3⟩ hl hx;have hsum:=anL hl hx
 cases hs:u_ xs 18 with
 | true =>
  rw [hs] at hsum;have en:x.next xs=⟨nextK x.q.a x.q.b x.q.c x.q.d (xI xs),(x.s+1) % 65536,x.f,(x.g+1) % 65536⟩:=by unfold St.next; rw [hs]; rfl
  have ef:iq xs=qB (xI xs):=by unfold iq; rw [hs]; rfl
  have hF:=XR (xI xs);have hi:=JC h1;have hj:=JC h3
  have go:∀ (l:Bool) (br:List (Nat × Bool)) (fl':Int),AU (NG adw fsh br [bQ 20 7]) (Dl Qk) 3000 25 [bQ 20 7] [.agg (bQ 7 0),.vw 1000000 0 20] (xg x.q.a x.q.b x.q.c x.q.d x.s x.f x.g (xI xs)) =
   some (true,[.v (st4 (nextK x.q.a x.q.b x.q.c x.q.d (xI xs)) (oC x.s) x.f (oC x.g)),Ee (nextK x.q.a x.q.b x.q.c x.q.d (xI xs)).a (nextK x.q.a x.q.b x.q.c x.q.d (xI xs)).b (nextK x.q.a x.q.b x.q.c x.q.d (xI xs)).c (nextK x.q.a x.q.b x.q.c x.q.d (xI xs)).d (oC x.s) x.f (oC x.g) fl',.v (.int .i64 0)],
    fOk x.q.a x.q.b x.q.c x.q.d x.s x.f x.g (qB (xI xs)) (xI xs) (nextK x.q.a x.q.b x.q.c x.q.d (xI xs)) l fl') ->
   iP (nextK x.q.a x.q.b x.q.c x.q.d (xI xs)).a (nextK x.q.a x.q.b x.q.c x.q.d (xI xs)).b (nextK x.q.a x.q.b x.q.c x.q.d (xI xs)).c (nextK x.q.a x.q.b x.q.c x.q.d (xI xs)).d=l->fl'=qB (xI xs)+(bif l then 8 else 0) ->
   Calls Tryz.prog 25 #[x.val,v] w fun e w'=>IB D w x xs e w':=fun l br fl' hrun hlk hfl=>by
   refine (Iz Qk hrun hgood ?_ w hw D hD [v] (hvw (α:=Unit)) hone TR).mono ?_
   . unfold fOk ags
     rw [rP h1,rP h3];have hb:0<=fl'/\fl'<=15:=by rw [hfl]; cases l<;>simp<;>omega
     exact qA (qA (ajN hb hi h2 hj) (nG (yL (agq (by rw [XO]; exact hlk))) (nG (yL (fU (by simp; omega))) (nG (yL (aV (by simp; omega))) (nG (yL (zH _ _ _ _ hi h2 hj)) OI))))) (nG (yL hsum) (nG (yL (zH _ _ _ _ h1 h2 h3)) OI))
   . rintro e w' ⟨⟨us,ha,rfl⟩,hc⟩
     match us,ha with
     | [y0,y1,y2],ha =>
      obtain ⟨rfl,h5,rfl,_⟩:=ha;rw [rP h1,rP h3] at h5;unfold Ee at h5;have h6:=h5.1;rw [RG _ _ _ _ (fl:=qB (xI xs)) hF (by rw [hfl,hlk]),xX,aaH] at h6;unfold IB;rw [en,ef,rP h1,rP h3];exact ⟨⟨y1,rfl,h6,h5.2⟩,hc⟩
  cases hlk:iP (nextK x.q.a x.q.b x.q.c x.q.d (xI xs)).a (nextK x.q.a x.q.b x.q.c x.q.d (xI xs)).b (nextK x.q.a x.q.b x.q.c x.q.d (xI xs)).c (nextK x.q.a x.q.b x.q.c x.q.d (xI xs)).d with
  | false=>exact go _ _ _ (agw _ _ _ _ _ _ _ _) hlk (by simp)
  | true=>exact go _ _ _ (agx _ _ _ _ _ _ _ _) hlk (by rw [IntKind.wrap_i64]; simp; omega)
 | false =>
  rw [hs] at hsum;have en:x.next xs=⟨x.q,(x.s+1) % 65536,min (x.f+1) 65535,x.g⟩:=by unfold St.next; rw [hs]; rfl
  have ef:iq xs=1:=by unfold iq; rw [hs]; rfl
  have go:∀ (f':Int) (l r:Bool) (br:List (Nat × Bool)) (fl:Int),Qm x.q.a x.q.b x.q.c x.q.d x.s x.f x.g (xI xs) br=Ql x.q.a x.q.b x.q.c x.q.d x.s x.f x.g f' (xI xs) l r fl->f'=min (x.f+1) 65535->decide (x.f < 65535)=r->iP x.q.a x.q.b x.q.c x.q.d=l->fl=1+(bif l then 8 else 0) ->
   Calls Tryz.prog 25 #[x.val,v] w fun e w'=>IB D w x xs e w':=fun f' l r br fl hrun hf' hr' hlk hfl=>by
   unfold Qm Ql at hrun;have h16:iI f':=by rw [hf']; unfold iI at *; omega
   have hi:=JC h1;refine (Iz Qk hrun hgood ?_ w hw D hD [v] (hvw (α:=Unit)) hone TR).mono ?_
   . unfold bOb
     rw [rP h1];exact qA (ajR hi h16 h3) (nG (yL (agq (by rw [XO]; exact hlk))) (nG (yL (zH _ _ _ _ hi h16 h3)) (nG (yL (aV hr')) (nG (yL hsum) (nG (yL (zH _ _ _ _ h1 h2 h3)) OI)))))
   . rintro e w' ⟨⟨us,ha,rfl⟩,hc⟩
     match us,ha with
     | [y0,y1,y2],ha =>
      obtain ⟨rfl,h5,rfl,_⟩:=ha;rw [rP h1] at h5;unfold Ee at h5;have h6:=h5.1;rw [RG x.q.a x.q.b x.q.c x.q.d (fl:=1) (by omega) (by rw [hfl,hlk]),xX,aaH] at h6;unfold IB;rw [en,ef,<- hf',rP h1];exact ⟨⟨y1,rfl,h6,h5.2⟩,hc⟩
  by_cases hf:x.f < 65535
  . have e1:IntKind.i64.wrap (x.f+1)=min (x.f+1) 65535:=by unfold iI at h2; rw [IntKind.wrap_i64]; omega
    cases hlk:iP x.q.a x.q.b x.q.c x.q.d with
    | false=>exact go _ _ _ _ _ (agB _ _ _ _ _ _ _ _) e1 (decide_eq_true hf) hlk rfl
    | true=>exact go _ _ _ _ _ (agC _ _ _ _ _ _ _ _) e1 (decide_eq_true hf) hlk rfl
  . have e1:x.f=min (x.f+1) 65535:=by unfold iI at h2; omega
    cases hlk:iP x.q.a x.q.b x.q.c x.q.d with
    | false=>exact go _ _ _ _ _ (agy _ _ _ _ _ _ _ _) e1 (decide_eq_false hf) hlk rfl
    | true=>exact go _ _ _ _ _ (agz _ _ _ _ _ _ _ _) e1 (decide_eq_false hf) hlk rfl
end Xi

namespace Xi
open Go Go.RowKit Go.Deep
def gsh:List (FuncId × Sh):=[(214,.one),(47,.one),(78,.one)]
noncomputable def asg:List (LJ ug):=[agr.k,agv.k,Xg.k]
def TS (B:Nat->Int) (r:Bool):Ob:=.test (.bin .neq 9) [.string (tJ (CG (front B 30))),.string (tJ (front B 32))] (.bool r)
def h1 (n b:Int):Int:=IntKind.i64.wrap (IntKind.i64.wrap (256 * n)+IntKind.i64.wrap b)
def n2 (B:Nat->Int) (k:Nat):Int:=h1 (IntKind.i64.wrap (B k)) (B (k+1))
def n4 (B:Nat->Int) (k:Nat):Int:=(kW (h1 (h1 (h1 (h1 0 (B k)) (B (k+1))) (B (k+2))) (B (k+3)))).v
def aj3 (B:Nat->Int):Value:=.agg #[.int .i64 (IntKind.i64.wrap (B 1)),.int .i64 (n2 B 2),.int .i64 (n2 B 4),.int .i64 (n2 B 6),.int .i32 (n4 B 8),.int .i32 (n4 B 12),.int .i32 (n4 B 16),.int .i32 (n4 B 20),.int .i32 (lH (B 24) (B 25)),.int .i32 (lH (B 26) (B 27)),.int .i32 (lH (B 28) (B 29))]
set_option maxRecDepth 100000 in
theorem anR (B:Nat->Int):AU (NG [] gsh [(68,false),(69,false),(70,false)] [bQ 32 0]) (Dl asg) 3000 21 [bQ 32 0] [.vw 1000000 0 32] (vb B 32) =
 some (true,[.v (aj3 B),.v (.int .i64 0)],[.test (.bin .gtr 5) [.int .u8 (B 1),.int .u8 15] (.bool false),.test (.bin .neq 5) [.int .u8 (B 0),.int .u8 1] (.bool false),TS B false]):=by kernel_rfl
def St.rep (x:St) (fl:Int):Value:=.agg #[.int .i64 (fl+(bif iP x.q.a x.q.b x.q.c x.q.d then 8 else 0)),.int .i64 x.s,.int .i64 x.f,.int .i64 x.g,.int .i32 x.q.a.v,.int .i32 x.q.b.v,.int .i32 x.q.c.v,.int .i32 x.q.d.v,
 .int .i32 ((iQ x.q.a x.q.b x.q.c x.q.d).a.v / 65536),.int .i32 ((iQ x.q.a x.q.b x.q.c x.q.d).b.v / 65536),.int .i32 ((iQ x.q.a x.q.b x.q.c x.q.d).c.v / 65536)]
theorem wr (b:Nat) (h:b < 256):IntKind.i64.wrap (b:Int)=b:=wrapN b (by omega)
theorem OY {n:Int} {b:Nat} (hn:0<=n/\n<=16777216) (hb:b < 256):h1 n b=256 * n+b:=by
 unfold h1;rw [wr b hb,show IntKind.i64.wrap (256 * n)=256 * n by rw [IntKind.wrap_i64]; omega,IntKind.wrap_i64];omega
theorem Qs {s:Int} (h:iI s):h1 (IntKind.i64.wrap (bn s 256:Nat)) (bn s 1:Nat)=s:=by
 have l1:=uh s 256;have l2:=uh s 1;rw [wr _ l1,OY (by omega) l2];unfold iI at h;unfold bn;omega
theorem JE (x:Wd):(kW (h1 (h1 (h1 (h1 0 (bn x.v 16777216:Nat)) (bn x.v 65536:Nat)) (bn x.v 256:Nat)) (bn x.v 1:Nat))).v=x.v:=by
 have l0:=uh x.v 16777216;have l1:=uh x.v 65536;have l2:=uh x.v 256;have l3:=uh x.v 1;have hx:=wdB x;rw [OY (n:=0) (by omega) l0,OY (n:=256 * 0+((bn x.v 16777216:Nat):Int)) (by omega) l1,OY (n:=256 * (256 * 0+((bn x.v 16777216:Nat):Int))+((bn x.v 65536:Nat):Int)) (by omega) l2,OY (by omega) l3]
 have e:256 * (256 * (256 * (256 * 0+((bn x.v 16777216:Nat):Int))+((bn x.v 65536:Nat):Int))+((bn x.v 256:Nat):Int))+((bn x.v 1:Nat):Int)=x.v % 4294967296:=by
  unfold bn;omega
 rw [e];show wrap32 (x.v % 4294967296)=x.v;unfold wrap32;omega
theorem IC {y:Int} (h:-32768<=y/\y<=32767):lH (bn y 256:Nat) (bn y 1:Nat)=y:=by
 unfold lH bn;omega
theorem atY {xs:List Nat} (h:xs.length=32):vb (xI xs) 32=fJ xs/\front (xI xs) 32=nI xs/\front (xI xs) 30=nI (xs.take 30):=by
 match xs,h with
 | [x0,x1,x2,x3,x4,x5,x6,x7,x8,x9,x10,x11,x12,x13,x14,x15,x16,x17,x18,x19,x20,x21,x22,x23,x24,x25,x26,x27,x28,x29,x30,x31],_=>exact ⟨rfl,rfl,rfl⟩
theorem atZ {xs:List Nat} (h:xs.length=32):au (dX (vb (xI xs) 32)) (bQ 32 0)=fJ xs:=by
 match xs,h with
 | [x0,x1,x2,x3,x4,x5,x6,x7,x8,x9,x10,x11,x12,x13,x14,x15,x16,x17,x18,x19,x20,x21,x22,x23,x24,x25,x26,x27,x28,x29,x30,x31],_=>rfl
theorem anS (x:St) (hr:x.right) {fl:Int} (h:0<=fl/\fl<=7):aj3 (xI (x.frame fl))=x.rep fl:=by
 have hF:IntKind.i64.wrap (((fl+(bif iP x.q.a x.q.b x.q.c x.q.d then 8 else 0)).toNat:Nat):Int)=fl+(bif iP x.q.a x.q.b x.q.c x.q.d then 8 else 0):=by
  rw [IntKind.wrap_i64]
  cases iP x.q.a x.q.b x.q.c x.q.d<;>simp<;>omega
 have ha:∀ y:Wd,-32768<=y.v / 65536/\y.v / 65536<=32767:=fun y=>by have:=wdB y; omega
 have e:aj3 (xI (x.frame fl))=.agg #[.int .i64 (IntKind.i64.wrap (((fl+(bif iP x.q.a x.q.b x.q.c x.q.d then 8 else 0)).toNat:Nat):Int)),.int .i64 (h1 (IntKind.i64.wrap (bn x.s 256:Nat)) (bn x.s 1:Nat)),.int .i64 (h1 (IntKind.i64.wrap (bn x.f 256:Nat)) (bn x.f 1:Nat)),.int .i64 (h1 (IntKind.i64.wrap (bn x.g 256:Nat)) (bn x.g 1:Nat)),
  .int .i32 (kW (h1 (h1 (h1 (h1 0 (bn x.q.a.v 16777216:Nat)) (bn x.q.a.v 65536:Nat)) (bn x.q.a.v 256:Nat)) (bn x.q.a.v 1:Nat))).v,.int .i32 (kW (h1 (h1 (h1 (h1 0 (bn x.q.b.v 16777216:Nat)) (bn x.q.b.v 65536:Nat)) (bn x.q.b.v 256:Nat)) (bn x.q.b.v 1:Nat))).v,
  .int .i32 (kW (h1 (h1 (h1 (h1 0 (bn x.q.c.v 16777216:Nat)) (bn x.q.c.v 65536:Nat)) (bn x.q.c.v 256:Nat)) (bn x.q.c.v 1:Nat))).v,.int .i32 (kW (h1 (h1 (h1 (h1 0 (bn x.q.d.v 16777216:Nat)) (bn x.q.d.v 65536:Nat)) (bn x.q.d.v 256:Nat)) (bn x.q.d.v 1:Nat))).v,
  .int .i32 (lH (bn ((iQ x.q.a x.q.b x.q.c x.q.d).a.v / 65536) 256:Nat) (bn ((iQ x.q.a x.q.b x.q.c x.q.d).a.v / 65536) 1:Nat)),.int .i32 (lH (bn ((iQ x.q.a x.q.b x.q.c x.q.d).b.v / 65536) 256:Nat) (bn ((iQ x.q.a x.q.b x.q.c x.q.d).b.v / 65536) 1:Nat)),.int .i32 (lH (bn ((iQ x.q.a x.q.b x.q.c x.q.d).c.v / 65536) 256:Nat) (bn ((iQ x.q.a x.q.b x.q.c x.q.d).c.v / 65536) 1:Nat))]:=by kernel_rfl
 rw [e,hF,Qs hr.1,Qs hr.2.1,Qs hr.2.2,JE,JE,JE,JE,IC (ha _),IC (ha _),IC (ha _)];rfl
theorem ash (x:St) (hr:x.right) {fl:Int} (h:0<=fl/\fl<=7) (v:Value) (w:World) (hw:ug w) (hv:Sl w v (fJ (x.frame fl))) :
 Calls Tryz.prog 21 #[v] w fun e w'=>e=.returned (.tuple #[x.rep fl,.int .i64 0])/\ah w w' []:=by
 have hl:=j_ x fl;have hlt:=wM x h;obtain ⟨g1,g2,g3⟩:=atY hl
 have hsum:kY Tryz.prog (TS (xI (x.frame fl)) false):=by
  have h1:=agD 9 (tJ (CG (front (xI (x.frame fl)) 30))) (tJ (front (xI (x.frame fl)) 32));have e3:=aaK (l:=rM ((x.frame fl).take 30)) (m:=x.frame fl) (LU fun y hy=>hlt y (List.mem_of_mem_take hy)) hlt;have e4:rM ((x.frame fl).take 30)=x.frame fl:=rfl;rw [e4,decide_eq_true rfl] at e3;rw [g3,g2,xX,e4,e3] at h1;unfold TS;rw [g3,g2,xX,e4];exact h1
 have t0:xI (x.frame fl) 0=1:=rfl;have t1:xI (x.frame fl) 1=(((fl+(bif iP x.q.a x.q.b x.q.c x.q.d then 8 else 0)).toNat:Nat):Int):=rfl
 have awt:∀ ob∈([.test (.bin .gtr 5) [.int .u8 (xI (x.frame fl) 1),.int .u8 15] (.bool false),.test (.bin .neq 5) [.int .u8 (xI (x.frame fl) 0),.int .u8 1] (.bool false),TS (xI (x.frame fl)) false]:List Ob),kF Tryz.prog ug ob:=by
  refine nG (yL ?_) (nG (yL ?_) (nG (yL hsum) OI))
  . have:=akU 5 .u8 (xI (x.frame fl) 1) 15
    rw [show decide (15 < xI (x.frame fl) 1)=false by rw [t1]; cases iP x.q.a x.q.b x.q.c x.q.d<;>simp<;>omega] at this;exact this
  . have:=atW 5 .u8 (xI (x.frame fl) 0) 1
    rw [show (xI (x.frame fl) 0 != 1)=false by rw [t0]; rfl] at this;exact this
 have hone:∀ u∈([v]:List Value),u.oneCell'=true:=fun u hu=>by
  simp at hu;subst hu;obtain ⟨A,c,rfl,_⟩:=hv;rfl
 have TR:au (E0 (ρS (vb (xI (x.frame fl)) 32) [v])) [.vw 1000000 0 32]=[v]:=by
  obtain ⟨A,c,rfl,hc,hA⟩:=hv;obtain ⟨b,o,rfl,_⟩:=hA (by rw [jT]; omega);have e:au (E0 (ρS (vb (xI (x.frame fl)) 32) [.slice (some ⟨b,o,none⟩) (fJ (x.frame fl)).length c])) [.vw 1000000 0 32]=[.slice (some ⟨b,o+0,none⟩) 32 (c - 0)]:=rfl;rw [e,jT,hl];rfl
 refine (YV asg (anR (xI (x.frame fl))) (by rw [g1]; exact XU hlt) awt w hw [v] (fun i cs hi=>?_) hone TR).mono ?_
 . cases i with
   | succ i=>simp at hi
   | zero =>
    simp at hi;subst hi;exact ⟨v,rfl,by rw [atZ hl]; exact hv⟩
 . rintro e w' ⟨⟨us,ha,rfl⟩,hc⟩
   match us,ha with
   | [y,z],ha =>
    obtain ⟨rfl,rfl,_⟩:=ha;rw [anS x hr h];exact ⟨rfl,hc⟩
