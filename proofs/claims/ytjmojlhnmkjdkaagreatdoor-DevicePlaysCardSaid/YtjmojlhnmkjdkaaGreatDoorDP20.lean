/- Texts of this claim, side by side. -/
import Derived.Test.YtjmojlhnmkjdkaaGreatDoorDP19
import Derived.Deep.Cut
set_option linter.unusedVariables false
set_option linter.unusedSimpArgs false
set_option maxRecDepth 100000
set_option maxHeartbeats 8000000
namespace Go.Proofs.YtjmojlhnmkjdkaaGreatDoor
section
open Go.RowKit Go.Deep Xi
def Du (w5:World) (B1:Nat) (p0 p1 p2 p3 p4 p5 p6:Value):World:=((((((w5.setCell ⟨B1,0,none⟩ p0).setCell ⟨B1,1,none⟩ p1).setCell ⟨B1,2,none⟩ p2).setCell ⟨B1,3,none⟩ p3).setCell ⟨B1,4,none⟩ p4).setCell ⟨B1,5,none⟩ p5).setCell ⟨B1,6,none⟩ p6
theorem FW (w5:World) (B1:Nat) (p0 p1 p2 p3 p4 p5 p6:Value):ah w5 (Du w5 B1 p0 p1 p2 p3 p4 p5 p6) [B1]:=(((((((ah.refl w5 [B1]).setCell ⟨B1,0,none⟩ p0 (.inl (by simp))).setCell ⟨B1,1,none⟩ p1 (.inl (by simp))).setCell ⟨B1,2,none⟩ p2 (.inl (by simp))).setCell ⟨B1,3,none⟩ p3 (.inl (by simp))).setCell ⟨B1,4,none⟩ p4 (.inl (by simp))).setCell ⟨B1,5,none⟩ p5 (.inl (by simp))).setCell ⟨B1,6,none⟩ p6 (.inl (by simp))
theorem FX {w5:World} {B1:Nat} {t:TypeId} {z0 z1 z2 z3 z4 z5 z6:Value} (k1:aC w5 B1 t [z0,z1,z2,z3,z4,z5,z6]) (p0 p1 p2 p3 p4 p5 p6:Value):aC (Du w5 B1 p0 p1 p2 p3 p4 p5 p6) B1 t [p0,p1,p2,p3,p4,p5,p6]:=(((((((k1.aK 0 p0)).aK 1 p1).aK 2 p2).aK 3 p3).aK 4 p4).aK 5 p5).aK 6 p6
theorem tu{fn:Func}{c t u:Tmp}{T:TypeId}(h:fn.results=#[.cell c T,.tmp t,.tmp u])(tmps:Array Value)(P:Program)(w:World){A:Addr}{v:Value}(ha:tmps.getD c undef=.pointer (some A))(hl:(loadVar T A).run P w=.ok v w) :
 (results fn tmps).run P w=.ok (.tuple #[v,tmps.getD t undef,tmps.getD u undef]) w:=by
 have e:results fn tmps=(do let vs <- fn.results.mapM (Xi.G6 tmps); pure (if h:vs.size=1 then vs[0] else .tuple vs)):=rfl;rw [e,h,Array.mapM_eq_mapM_toList];simp [Xi.G6,ha,asAddr,hl]
def jf(n:Nat):Int:=if n<20 then 4 else 5
def zero9:Value:=.agg #[.int .i32 0,.int .i32 0,.int .i32 0,.int .i32 0,.int .i32 0,.int .i32 0,.int .i32 0,.int .i32 0,.int .i32 0]
theorem ag1(A:Option Addr)(n m:Nat)(hn:n≠20)(hm:n<=maxLen)(w:World):Calls Tryz.prog 63 #[.slice A n m] w fun e w'=>e=.returned (.tuple #[zero9,.bool false,.int .i64 (jf n)])/\ah w w' []:=by
 have b1:=aC.new w 133 [.int .i32 0,.int .i32 0,.int .i32 0,.int .i32 0,.int .i32 0,.int .i32 0,.int .i32 0,.int .i32 0,.int .i32 0];have hc:=(ah.refl w []).alloc (.cells #[.int .i32 0,.int .i32 0,.int .i32 0,.int .i32 0,.int .i32 0,.int .i32 0,.int .i32 0,.int .i32 0,.int .i32 0] 133);have uc0:=b1.cell' (i:=0) rfl;have uf0:=b1.frozen 0;have uc1:=b1.cell' (i:=1) rfl;have uf1:=b1.frozen 1;have uc2:=b1.cell' (i:=2) rfl;have uf2:=b1.frozen 2;have uc3:=b1.cell' (i:=3) rfl;have uf3:=b1.frozen 3;have uc4:=b1.cell' (i:=4) rfl;have uf4:=b1.frozen 4;have uc5:=b1.cell' (i:=5) rfl;have uf5:=b1.frozen 5;have uc6:=b1.cell' (i:=6) rfl;have uf6:=b1.frozen 6;have uc7:=b1.cell' (i:=7) rfl;have uf7:=b1.frozen 7;have uc8:=b1.cell' (i:=8) rfl;have uf8:=b1.frozen 8;unfold zero9;by_cases h:n<20
 . have e:jf n=4:=by unfold jf; rw [if_pos h]
   have k0:decide ((n:Int)<20)=true:=by simp; omega
   rw [e];clear e;go_enter Tryz.func63,Tryz.ntmps63
   go_wp2_with fail
   refine bodyPost_ret (tu rfl _ _ _ (A:=⟨w.heap.size,0,none⟩) rfl (v:=.agg #[.int .i32 0,.int .i32 0,.int .i32 0,.int .i32 0,.int .i32 0,.int .i32 0,.int .i32 0,.int .i32 0,.int .i32 0]) ?_) rfl ?_
   . go_simp
   . exact⟨rfl,hc⟩
 . have e:jf n=5:=by unfold jf; rw [if_neg h]
   have k0:decide ((n:Int)<20)=false:=by simp; omega
   have k1:decide ((n:Int)>20)=true:=by simp; omega
   rw [e];clear e;go_enter Tryz.func63,Tryz.ntmps63
   go_wp2_with fail
   refine bodyPost_ret (tu rfl _ _ _ (A:=⟨w.heap.size,0,none⟩) rfl (v:=.agg #[.int .i32 0,.int .i32 0,.int .i32 0,.int .i32 0,.int .i32 0,.int .i32 0,.int .i32 0,.int .i32 0,.int .i32 0]) ?_) rfl ?_
   . go_simp
   . exact⟨rfl,hc⟩
theorem ag2 {x:St} (hr:x.right) (A:Option Addr) (n m:Nat) (hn:n≠20) (hm:n<=maxLen) (w:World) :
 Calls Tryz.prog 25 #[x.val,.slice A n m] w fun e w'=>e=.returned (.tuple #[x.val,.slice none 0 0,.int .i64 (jf n)])/\ah w w' []:=by
 obtain⟨h1,h2,h3⟩:=hr;have hgs:=MC (a:=x.q.a) (b:=x.q.b) (c:=x.q.c) (d:=x.q.d) (rX h1) (rX h2) (rX h3);have HR:=fun w=>hide (Iz x.q.a x.q.b x.q.c x.q.d x.s x.f x.g hgs w);rw [(O1 x.s x.f x.g).2 ⟨h1,h2,h3⟩] at HR;have HE:=hide (show(jf n != 0)=true by unfold jf; split<;>rfl);show Calls Tryz.prog 25 #[Gx x.q.a x.q.b x.q.c x.q.d x.s x.f x.g,.slice A n m] w fun e w'=>e=.returned (.tuple #[Gx x.q.a x.q.b x.q.c x.q.d x.s x.f x.g,.slice none 0 0,.int .i64 (jf n)])/\ah w w' [];have RL:=fun w=>hide (ag1 A n m hn hm w);generalize jf n=E at *;unfold Gx at *;clear hgs;have b0:=(aC.new w 46 [.int .i32 x.q.a.v,.int .i32 x.q.b.v,.int .i32 x.q.c.v,.int .i32 x.q.d.v,.int .i64 x.s,.int .i64 x.f,.int .i64 x.g]).alloc (.cells #[.int .i32 0,.int .i32 0,.int .i32 0,.int .i32 0,.int .i64 0,.int .i64 0,.int .i64 0] 46);have b1:=aC.new (w.alloc (.cells #[.int .i32 x.q.a.v,.int .i32 x.q.b.v,.int .i32 x.q.c.v,.int .i32 x.q.d.v,.int .i64 x.s,.int .i64 x.f,.int .i64 x.g] 46)) 46 [.int .i32 0,.int .i32 0,.int .i32 0,.int .i32 0,.int .i64 0,.int .i64 0,.int .i64 0];simp only [size_alloc] at b1;have hc:=((ah.refl w []).alloc (.cells #[.int .i32 x.q.a.v,.int .i32 x.q.b.v,.int .i32 x.q.c.v,.int .i32 x.q.d.v,.int .i64 x.s,.int .i64 x.f,.int .i64 x.g] 46)).alloc (.cells #[.int .i32 0,.int .i32 0,.int .i32 0,.int .i32 0,.int .i64 0,.int .i64 0,.int .i64 0] 46);go_enter Tryz.func25,Tryz.ntmps25
 go_wp2_with fail
 refine(HR _).out.mono ?_;rintro e w3 ⟨rfl,hc3⟩;replace hc:=hc.trans hc3 (D:=[]) (by simp);replace b0:=b0.aj hc3 (by simp);replace b1:=b1.aj hc3 (by simp);clear hc3;have uc0:=b0.cell' (i:=0) rfl;have uf0:=b0.frozen 0;have uc1:=b0.cell' (i:=1) rfl;have uf1:=b0.frozen 1;have uc2:=b0.cell' (i:=2) rfl;have uf2:=b0.frozen 2;have uc3:=b0.cell' (i:=3) rfl;have uf3:=b0.frozen 3;have uc4:=b0.cell' (i:=4) rfl;have uf4:=b0.frozen 4;have uc5:=b0.cell' (i:=5) rfl;have uf5:=b0.frozen 5;have uc6:=b0.cell' (i:=6) rfl;have uf6:=b0.frozen 6;go_wp2_with fail
 refine(RL w3).out.mono ?_;unfold zero9;rintro e w4 ⟨rfl,hc4⟩;replace hc:=hc.trans hc4 (D:=[]) (by simp);replace b0:=b0.aj hc4 (by simp);replace b1:=b1.aj hc4 (by simp);clear hc4;clear uc0 uf0 uc1 uf1 uc2 uf2 uc3 uf3 uc4 uf4 uc5 uf5 uc6 uf6;have hk:=HE.out;go_upto_region 5 with(fail)
 replace b0:=b0.alloc (.cells #[.int .i32 0,.int .i32 0,.int .i32 0,.int .i32 0,.int .i32 0,.int .i32 0,.int .i32 0,.int .i32 0,.int .i32 0] 133);replace b1:=b1.alloc (.cells #[.int .i32 0,.int .i32 0,.int .i32 0,.int .i32 0,.int .i32 0,.int .i32 0,.int .i32 0,.int .i32 0,.int .i32 0] 133);replace hc:=hc.alloc (.cells #[.int .i32 0,.int .i32 0,.int .i32 0,.int .i32 0,.int .i32 0,.int .i32 0,.int .i32 0,.int .i32 0,.int .i32 0] 133);generalize (w4.alloc (.cells #[.int .i32 0,.int .i32 0,.int .i32 0,.int .i32 0,.int .i32 0,.int .i32 0,.int .i32 0,.int .i32 0,.int .i32 0] 133))=w5 at *;have uc0:=b0.cell' (i:=0) rfl;have uf0:=b0.frozen 0;have uc1:=b0.cell' (i:=1) rfl;have uf1:=b0.frozen 1;have uc2:=b0.cell' (i:=2) rfl;have uf2:=b0.frozen 2;have uc3:=b0.cell' (i:=3) rfl;have uf3:=b0.frozen 3;have uc4:=b0.cell' (i:=4) rfl;have uf4:=b0.frozen 4;have uc5:=b0.cell' (i:=5) rfl;have uf5:=b0.frozen 5;have uc6:=b0.cell' (i:=6) rfl;have uf6:=b0.frozen 6;have vc0:=b1.cell' (i:=0) rfl;have vf0:=b1.frozen 0;have vc1:=b1.cell' (i:=1) rfl;have vf1:=b1.frozen 1;have vc2:=b1.cell' (i:=2) rfl;have vf2:=b1.frozen 2;have vc3:=b1.cell' (i:=3) rfl;have vf3:=b1.frozen 3;have vc4:=b1.cell' (i:=4) rfl;have vf4:=b1.frozen 4;have vc5:=b1.cell' (i:=5) rfl;have vf5:=b1.frozen 5;have vc6:=b1.cell' (i:=6) rfl;have vf6:=b1.frozen 6;go_wp2_with fail
 change bodyPost _ _ _ _ _ (Du w5 (w.heap.size+1) (.int .i32 x.q.a.v) (.int .i32 x.q.b.v) (.int .i32 x.q.c.v) (.int .i32 x.q.d.v) (.int .i64 x.s) (.int .i64 x.f) (.int .i64 x.g));have hcf:=FW w5 (w.heap.size+1) (.int .i32 x.q.a.v) (.int .i32 x.q.b.v) (.int .i32 x.q.c.v) (.int .i32 x.q.d.v) (.int .i64 x.s) (.int .i64 x.f) (.int .i64 x.g);have kf:=FX b1 (.int .i32 x.q.a.v) (.int .i32 x.q.b.v) (.int .i32 x.q.c.v) (.int .i32 x.q.d.v) (.int .i64 x.s) (.int .i64 x.f) (.int .i64 x.g);replace hc:=hc.trans hcf (D:=[]) (fun k hk=>by simp at hk; omega);generalize Du w5 (w.heap.size+1) (.int .i32 x.q.a.v) (.int .i32 x.q.b.v) (.int .i32 x.q.c.v) (.int .i32 x.q.d.v) (.int .i64 x.s) (.int .i64 x.f) (.int .i64 x.g)=wf at *;have tc0:=kf.cell' (i:=0) rfl;have tc1:=kf.cell' (i:=1) rfl;have tc2:=kf.cell' (i:=2) rfl;have tc3:=kf.cell' (i:=3) rfl;have tc4:=kf.cell' (i:=4) rfl;have tc5:=kf.cell' (i:=5) rfl;have tc6:=kf.cell' (i:=6) rfl;refine bodyPost_ret (tu rfl _ _ _ (A:=⟨w.heap.size+1,0,none⟩) rfl (v:=.agg #[.int .i32 x.q.a.v,.int .i32 x.q.b.v,.int .i32 x.q.c.v,.int .i32 x.q.d.v,.int .i64 x.s,.int .i64 x.f,.int .i64 x.g]) ?_) rfl ?_
 . go_simp
 . exact⟨rfl,hc⟩
end

namespace Xi
open Go Go.RowKit Go.Deep
theorem iQ(x:St)(fl:Int):(x.frame fl).length=32:=rfl
theorem aog(a b c d:Wd)(s f g:Int){fl:Int}(h:0<=fl/\fl<=7):∀ y∈JH a b c d s f g fl,y<256:=fun y hy=>by
 have h1:(fl+(bif iR a b c d then 8 else 0)).toNat<256:=by cases iR a b c d<;>simp<;>omega
 simp only [JH,b2,b4,List.cons_append,List.nil_append,List.mem_cons,List.not_mem_nil,or_false] at hy;rcases hy with rfl | rfl | hy
 . decide
 . exact h1
 . rcases hy with rfl | rfl | rfl | rfl | rfl | rfl | rfl | rfl | rfl | rfl | rfl | rfl | rfl | rfl | rfl | rfl | rfl | rfl | rfl | rfl | rfl | rfl | rfl | rfl | rfl | rfl | rfl | rfl<;>exact oU _ _
theorem Bq(x:St){fl:Int}(h:0<=fl/\fl<=7):∀ y∈x.frame fl,y<256:=X8 (aog _ _ _ _ _ _ _ h)
theorem JM{w:World}{v:Value}{xs:List Nat}(h:Sl w v (bU xs))(hx:∀ x∈xs,x<256):(convert 29 9 v).run Tryz.prog w=.ok (.string (strOfNums (nI xs))) w:=by
 refine akm (Bs.aof (z:=nI xs) ?_ ?_)
 . unfold nI; rw [List.map_map]; exact h
 . intro n hn
   obtain⟨y,hy,rfl⟩:=List.mem_map.1 hn;have:=hx y hy;simp [Lit.wf,IntKind.min,IntKind.max,IntKind.signed,IntKind.bits];omega
theorem Yc(s:ByteArray):(s.toList==s.toList)=true:=by simp
def St.cells (x:St):List Value:=[.int .i32 x.q.a.v,.int .i32 x.q.b.v,.int .i32 x.q.c.v,.int .i32 x.q.d.v,.int .i64 x.s,.int .i64 x.f,.int .i64 x.g]
end Xi
section
open Go.RowKit Go.Deep Xi
def q1:Q4:=⟨kW 1073741824,kW 0,kW 0,kW 0⟩
def st0:St:=⟨q1,0,0,0⟩
def z20:List Nat:=List.replicate 20 0
theorem JO:st0.val=.agg #[.int .i32 1073741824,.int .i32 0,.int .i32 0,.int .i32 0,.int .i64 0,.int .i64 0,.int .i64 0]:=by
 unfold St.val st0 Gx q1;rw [show(kW 1073741824).v=1073741824 by decide +kernel,show(kW 0).v=0 by decide +kernel]
theorem IG:st0.right:=by unfold St.right st0 iJ; simp
theorem aoh:ny z20 18=false:=by decide +kernel
theorem akn:st0.next z20=⟨q1,1,1,0⟩:=by unfold St.next; rw [aoh]; rfl
end

namespace Xi
open Go Go.RowKit Go.Deep
theorem b_.adL {fp fp':List Nat} {w:World} (hs:∀ k∈fp',k∈fp):∀ {l:List Value} {cs:List CA},b_ fp w l cs->b_ fp' w l cs
 | [],[],_=>trivial
 | a::l,.v x::cs,h=>⟨h.1,b_.adL hs h.2⟩
 | a::l,.l xs::cs,h=>⟨⟨h.1.1,fun A n c e hm=>h.1.2 A n c e (hs _ hm)⟩,b_.adL hs h.2⟩
 | [],_::_,h=>h.elim
 | _::_,[],h=>h.elim
theorem Zh{cx:Cx}{tab:Tab}{fuel:Nat}{f:FuncId}{vws:List (List AV)}{args:List AV}{ins:List Value}{t:Bool}{cas:List CA}{obs:List Ob}(fG:cx.P.follows .mixedOrders=true)(hmt:vZ cx){K:World->Prop}(hT:Nl cx.P K tab)(hvw:cx.vw=Dj vws)
 (h:AY cx tab fuel f vws args ins=some (t,cas,obs)) (hg:eP ins) (ho:∀ ob∈obs,kF cx.P K ob) (w:World) (gs:List Nat) (hgs:∀ k∈gs,k<w.heap.size) (hK:∀ w1:World,(∀ k∈gs,w1.heap[k]?=w.heap[k]?)->K w1) (ss:List Value)
 (hss:∀(i:Nat) cs,vws[i]?=some cs->∃ v,ss[i]?=some v/\Sl w v (ay (dV ins) cs)) (h1:∀ v∈ss,v.oneCell'=true) {vals:List Value} (hvs:ay (E0 (ρS ins ss)) args=vals) :
 Calls cx.P f vals.toArray w fun e w'=>(∃ us,b_ gs w' us cas/\e=.returned (LQ t us))/\ah w w' []:=by
 unfold AY at h
 cases hc:iK cx fuel f args ⟨.nil,0,aF ins⟩ with
 | none=>rw [hc] at h; cases h
 | some q =>
  obtain⟨v,g',δ⟩:=q;rw [hc] at h;simp only [] at h
  cases hk:(iE 0 args&&wM (aF ins) args&&okV (aF ins) vws) with
  | false=>rw [hk] at h; cases h
  | true =>
   rw [hk] at h;simp only [cond_true] at h;simp only [Bool.and_eq_true] at hk;obtain⟨⟨k1,k2⟩,k3⟩:=hk
   cases hr:tY cx tab δ ins [] with
   | none=>rw [hr] at h; cases h
   | some q2 =>
    obtain⟨ρ,obs'⟩:=q2;rw [hr] at h;simp only [] at h
    cases hlen:Nat.ble (aF ρ) 1000000 with
    | false=>rw [hlen] at h; cases h
    | true =>
     rw [hlen] at h;rw [bn] at hlen;unfold aF at hlen;simp only [cond_true] at h
     cases he:xq g' v with
     | none=>rw [he] at h; cases h
     | some q3 =>
      obtain⟨t',xs⟩:=q3;rw [he] at h;simp only [] at h
      cases hx:ZY (aF ρ) xs with
      | false=>rw [hx] at h; cases h
      | true =>
       rw [hx] at h;injection h with h; injection h with e1 h; injection h with e2 e3;subst e1 e2 e3;have N8:∀ w1:World,(∀ k∈gs++((ss.filterMap dU).filter fun b=>decide (b<w.heap.size)),k<w1.heap.size/\w1.heap[k]?=w.heap[k]?)->K w1:=fun w1 h=>hK w1 fun k hk=>(h k (List.mem_append.2 (.inl hk))).2;obtain⟨⟨τ,hτ⟩,hgρ,_,hrun⟩:=tZ (M:=BX cx.P w (gs++((ss.filterMap dU).filter fun b=>decide (b<w.heap.size))) K N8) (fun s f cas v hs=>hs) hT hr hg ho;have hF:Ext ρ (ρS ρ ss):=V_ ρ ss
       have hone:∀ i,(ρS ρ ss i).oneCell'=true:=fun i=>by
        unfold ρS;split
        . rename_i hi
          simp only [List.getD,List.getElem?_eq_getElem hi,Option.getD_some];exact G8 (hgρ _ (List.getElem_mem hi))
        . cases hj:ss[i - 1000000]? with
          | none=>rw [List.getD,hj]; rfl
          | some u=>rw [List.getD,hj]; exact h1 u (List.mem_of_getElem? hj)
       have hvk:∀ i cs,cx.vw i=some cs->∃ b a n c,ρS ρ ss i=.slice (some ⟨b,a,none⟩) n c/\cs.length<=c/\iE 0 cs=true/\b∈ss.filterMap dU/\b<w.heap.size/\∀ k v,cs[k]?=some v->∀ E:Env,E.ρ=ρS ρ ss->w.cell? ⟨b,a+k,none⟩=some (v.aA E):=fun i cs hi=>by
        rw [hvw] at hi;unfold Dj at hi
        cases hb:Nat.ble 1000000 i with
        | false=>rw [hb] at hi; cases hi
        | true =>
         rw [hb] at hi;rw [bn] at hb;simp only [cond_true] at hi;rw [nD] at hi;obtain⟨z1,z2,z3⟩:=NY k3 hi;obtain⟨u,hu,hsl⟩:=hss _ _ hi;obtain⟨A,c,rfl,hcap,hcell⟩:=hsl;rw [aV] at hcap hcell;obtain⟨b,a,rfl,hcell2⟩:=hcell (by omega);refine⟨b,a,cs.length,c,?_,hcap,z1,?_,?_,?_⟩
         . unfold ρS
           rw [if_neg (by omega),List.getD,hu,aV]; rfl
         . exact List.mem_filterMap.2 ⟨_,List.mem_of_getElem? hu,rfl⟩
         . have:=hcell2 0 (by omega)
           unfold World.cell? at this
           cases hb':w.heap[b]? with
           | none =>
            simp only [hb'] at this;rw [eq_comm,List.getElem?_eq_none_iff,aV] at this;omega
           | some o=>exact lt_of_heap hb'
         . intro k y hy E hE
           have hk':k<cs.length:=(List.getElem?_eq_some_iff.1 hy).1;rw [hcell2 k hk',cO,List.getElem?_map,hy];show some (y.aA (dV ins))=some (y.aA E)
           have Np:Ext ins (ρS ρ ss):=by
            have:=hF;rw [hτ] at this ⊢;exact this.of_append
           have e4:ay (E0 (ρS ρ ss)) cs=ay (dV ins) cs:=jq Np cs z2;rw [cO,cO] at e4;have e5:=congrArg (fun l=>l[k]?) e4;simp only [List.getElem?_map,hy,Option.map_some] at e5;rw [<- e5]
           have z4:y.lt 0=true:=by
            unfold AV.lt;rw [aI,pow_eq];refine dP fun q hq=>?_;have:=kE z1 (fF (List.mem_of_getElem? hy) hq);omega
           rw [n_ (E:=E0 (ρS ρ ss)) (E':=E) z4 hE]
       have hI:(BX cx.P w (gs++((ss.filterMap dU).filter fun b=>decide (b<w.heap.size))) K N8).I () w:=fun k hk=>⟨(List.mem_append.1 hk).elim (hgs k) (fun hk=>by have:=(List.mem_filter.1 hk).2; simpa using this),rfl⟩
       obtain ⟨_,hcall⟩:=z_ (M:=BX cx.P w (gs ++ ((ss.filterMap dU).filter fun b => decide (b < w.heap.size))) K N8) (ρv:=ρS ρ ss) fG hmt hone (fun i cs hi => by
        obtain⟨b,a,n,c,y1,y2,y3,y4,y5,y6⟩:=hvk i cs hi;refine⟨b,a,n,c,y1,y2,y3,fun s w1 hw1=>?_⟩;have hm:b∈gs++((ss.filterMap dU).filter fun b=>decide (b<w.heap.size)):=List.mem_append.2 (.inr (List.mem_filter.2 ⟨y4,by simpa using y5⟩));refine⟨hm,fun k u hu E hE=>?_⟩;have:=y6 k u hu E hE;unfold World.cell? at this ⊢;rw [show w1.heap[b]?=w.heap[b]? from(hw1 b hm).2]
        exact this) fuel |>.2 f args ⟨.nil,0,aF ins⟩ v g' δ hc
       have hrep:Rep (BX cx.P w (gs++((ss.filterMap dU).filter fun b=>decide (b<w.heap.size))) K N8) (E0 (ρS ρ ss)) () (⟨.nil,0,aF ins⟩:G).at 0 w:=⟨hI,(fun b B hb=>by have:=dQ hb; cases this),(fun b b' B B' hb=>by have:=dQ hb; cases this),(fun b B hb=>by have:=dQ hb; cases this),(fun b B hb=>dQ hb)⟩
       have hcl:=hcall (E0 (ρS ρ ss)) () () w rfl hrep (fun u hu=>by
        unfold AV.lt;rw [aI,pow_eq];refine dP fun q hq=>?_;have:=kE k1 (fF hu hq)
        omega) (hrun _ hF ())
       have H9:ay (E0 (ρS ρ ss)) args=vals:=by
        rw [<- hvs];subst hτ;exact oq hlen args k2
       rw [H9] at hcl;refine hcl.mono ?_;rintro e w' ⟨E',rfl,hw⟩;refine⟨?_,?_⟩
       . have eρ:E'.ρ=ρS ρ ss:=hw.rho
         have fin:∀ {l:List AV},eargs g' l=some xs->b_ gs w' (ay E' l) (xs.map (EA.aA (dV ρ))):=fun {l} hl=>by
          have:=b_.adL (fp':=gs) (fun k hk=>List.mem_append.2 (.inl hk)) (uO hw.rep hl);rw [eρ,LU hF hx] at this;exact this
         unfold xq at he;split at he
         . rename_i vs _
           cases hvs':eargs g' vs with
           | none=>rw [hvs'] at he; cases he
           | some l =>
            rw [hvs'] at he;injection he with he; injection he with he1 he2;subst he1 he2;exact⟨_,fin hvs',rfl⟩
         . cases hv':GI g' v with
           | none=>rw [hv'] at he; cases he
           | some x =>
            rw [hv'] at he;injection he with he; injection he with he1 he2;subst he1 he2;exact⟨[v.aA E'],fin (l:=[v]) (by simp only [eargs,hv']),rfl⟩
       . refine⟨hw.fr.os,hw.fr.tape,hw.fr.output,hw.fr.size,fun k hk _=>?_⟩
         by_cases hm:k∈gs++((ss.filterMap dU).filter fun b=>decide (b<w.heap.size))
         . exact(hw.rep.sD k hm).2
         . refine hw.fr.block k hk fun hd=>?_
           rcases hd with hd | ⟨b,B,hb,_⟩
           . exact hm hd
           . have:=dQ hb; cases this
theorem IK{lits:List (FuncId×AV)}{shs:List (FuncId×Sh)}{br:List (Nat×Bool)}(tab:List (Ql gZ)){fuel:Nat}{f:FuncId}{vws:List (List AV)}{args:List AV}{ins:List Value}{t:Bool}{cas:List CA}{obs:List Ob}
 (h:AY (NW lits shs br vws) (Dp tab) fuel f vws args ins=some (t,cas,obs)) (hg:eP ins) (ho:∀ ob∈obs,kF Tryz.prog gZ ob) (w:World) (hw:gZ w) (D:List Nat) (hD:∀ k∈D,k<w.heap.size) (ss:List Value)
 (hss:∀(i:Nat) cs,vws[i]?=some cs->∃ v,ss[i]?=some v/\Sl w v (ay (dV ins) cs)) (h1:∀ v∈ss,v.oneCell'=true) {vals:List Value} (hvs:ay (E0 (ρS ins ss)) args=vals) :
 Calls Tryz.prog f vals.toArray w fun e w'=>(∃ us,b_ D w' us cas/\e=.returned (LQ t us))/\ah w w' [] :=
 (Zh (cx:=NW lits shs br vws) (by kernel_rfl) (fun t n g h=>by cases h) (Qm tab) rfl h hg ho w (4::D) (fun k hk=>by rcases List.mem_cons.1 hk with rfl | hk; exact hw.lt; exact hD k hk) (fun w1 hk=>gZ.of_heap hw (fun k hk1=>hk k (by simp at hk1; simp [hk1]))) ss hss h1 hvs).mono fun e w' ⟨⟨us,h1,h2⟩,h3⟩=>⟨⟨us,b_.adL (fun k hk=>List.mem_cons_of_mem _ hk) h1,h2⟩,h3⟩
def IL (D:List Nat) (w:World) (x:St) (xs:List Nat) (e:Ending) (w':World):Prop :=
 (∃ sv,e=.returned (.tuple #[(x.next xs).val,sv,.int .i64 0])/\Sl w' sv (bU ((x.next xs).frame (jT xs)))/\∀ A n c,sv=.slice (some A) n c->A.block∉D)/\ah w w' []
theorem ag7{x:St}(hr:x.right){xs:List Nat}(hl:xs.length=20)(hx:∀ y∈xs,y<256){v:Value}(w:World)(hw:gZ w)(D:List Nat)(hD:∀ k∈D,k<w.heap.size)(hv:Sl w v (bU xs)) :
 Calls Tryz.prog 25 #[x.val,v] w fun e w'=>IL D w x xs e w':=by
 obtain⟨h1,h2,h3⟩:=hr
 have hvw:∀ {α:Type} (i:Nat) cs,([bQ 20 7]:List (List AV))[i]?=some cs->∃ u,([v]:List Value)[i]?=some u/\Sl w u (ay (dV (xB x.q.a x.q.b x.q.c x.q.d x.s x.f x.g (xI xs))) cs):=fun {α} i cs hi=>by
  cases i with
  | succ i=>simp at hi
  | zero =>
   simp at hi;subst hi;exact⟨v,rfl,by rw [ag0 _ _ _ _ _ _ _ hl]; exact hv⟩
 have hone:∀ u∈([v]:List Value),u.oneCell'=true:=fun u hu=>by
  simp at hu;subst hu;obtain⟨A,c,rfl,_⟩:=hv;rfl
 have Ue:ay (E0 (ρS (xB x.q.a x.q.b x.q.c x.q.d x.s x.f x.g (xI xs)) [v])) [.agg (bQ 7 0),.vw 1000000 0 20]=[x.val,v]:=by
  obtain⟨A,c,rfl,hc,hA⟩:=hv;obtain⟨b,o,rfl,_⟩:=hA (by rw [fD]; omega);have e:ay (E0 (ρS (xB x.q.a x.q.b x.q.c x.q.d x.s x.f x.g (xI xs)) [.slice (some ⟨b,o,none⟩) (bU xs).length c])) [.agg (bQ 7 0),.vw 1000000 0 20]=[x.val,.slice (some ⟨b,o+0,none⟩) 20 (c - 0)]:=rfl;rw [e,fD,hl];rfl
 have hgood:=adH (x:=x) ⟨h1,h2,h3⟩ hl hx;have hsum:=aoe hl hx
 cases hs:ny xs 18 with
 | true =>
  rw [hs] at hsum;have en:x.next xs=⟨nextK x.q.a x.q.b x.q.c x.q.d (xI xs),(x.s+1)%65536,x.f,(x.g+1)%65536⟩:=by unfold St.next; rw [hs]; rfl
  have ef:jT xs=qA (xI xs):=by unfold jT; rw [hs]; rfl
  have hF:=X6 (xI xs);have hi:=JL h1;have hj:=JL h3
  have go:∀(l:Bool) (br:List (Nat×Bool)) (fl':Int),AY (NW adE fsh br [bQ 20 7]) (Dp Qx) 3000 25 [bQ 20 7] [.agg (bQ 7 0),.vw 1000000 0 20] (xB x.q.a x.q.b x.q.c x.q.d x.s x.f x.g (xI xs)) =
   some (true,[.v (st4 (nextK x.q.a x.q.b x.q.c x.q.d (xI xs)) (nZ x.s) x.f (nZ x.g)),Ef (nextK x.q.a x.q.b x.q.c x.q.d (xI xs)).a (nextK x.q.a x.q.b x.q.c x.q.d (xI xs)).b (nextK x.q.a x.q.b x.q.c x.q.d (xI xs)).c (nextK x.q.a x.q.b x.q.c x.q.d (xI xs)).d (nZ x.s) x.f (nZ x.g) fl',.v (.int .i64 0)],
    fOk x.q.a x.q.b x.q.c x.q.d x.s x.f x.g (qA (xI xs)) (xI xs) (nextK x.q.a x.q.b x.q.c x.q.d (xI xs)) l fl') ->
   iR (nextK x.q.a x.q.b x.q.c x.q.d (xI xs)).a (nextK x.q.a x.q.b x.q.c x.q.d (xI xs)).b (nextK x.q.a x.q.b x.q.c x.q.d (xI xs)).c (nextK x.q.a x.q.b x.q.c x.q.d (xI xs)).d=l->fl'=qA (xI xs)+(bif l then 8 else 0) ->
   Calls Tryz.prog 25 #[x.val,v] w fun e w'=>IL D w x xs e w':=fun l br fl' hrun hlk hfl=>by
   refine(IK Qx hrun hgood ?_ w hw D hD [v] (hvw (α:=Unit)) hone Ue).mono ?_
   . unfold fOk agP
     rw [rY h1,rY h3];have hb:0<=fl'/\fl'<=15:=by rw [hfl]; cases l<;>simp<;>omega
     exact qx (qx (akg hb hi h2 hj) (oV (Bl (agO (by rw [X5]; exact hlk))) (oV (Bl (fV (by simp; omega))) (oV (Bl (aU (by simp; omega))) (oV (Bl (zH _ _ _ _ hi h2 hj)) OZ))))) (oV (Bl hsum) (oV (Bl (zH _ _ _ _ h1 h2 h3)) OZ))
   . rintro e w' ⟨⟨us,ha,rfl⟩,hc⟩
     match us,ha with
     | [y0,y1,y2],ha =>
      obtain⟨rfl,h5,rfl,_⟩:=ha;rw [rY h1,rY h3] at h5;unfold Ef at h5;have h6:=h5.1;rw [R_ _ _ _ _ (fl:=qA (xI xs)) hF (by rw [hfl,hlk]),IB,aaP] at h6;unfold IL;rw [en,ef,rY h1,rY h3];exact⟨⟨y1,rfl,h6,h5.2⟩,hc⟩
  cases hlk:iR (nextK x.q.a x.q.b x.q.c x.q.d (xI xs)).a (nextK x.q.a x.q.b x.q.c x.q.d (xI xs)).b (nextK x.q.a x.q.b x.q.c x.q.d (xI xs)).c (nextK x.q.a x.q.b x.q.c x.q.d (xI xs)).d with
  | false=>exact go _ _ _ (agT _ _ _ _ _ _ _ _) hlk (by simp)
  | true=>exact go _ _ _ (agU _ _ _ _ _ _ _ _) hlk (by rw [IntKind.wrap_i64]; simp; omega)
 | false =>
  rw [hs] at hsum;have en:x.next xs=⟨x.q,(x.s+1)%65536,min (x.f+1) 65535,x.g⟩:=by unfold St.next; rw [hs]; rfl
  have ef:jT xs=1:=by unfold jT; rw [hs]; rfl
  have go:∀(f':Int) (l r:Bool) (br:List (Nat×Bool)) (fl:Int),Qz x.q.a x.q.b x.q.c x.q.d x.s x.f x.g (xI xs) br=Qy x.q.a x.q.b x.q.c x.q.d x.s x.f x.g f' (xI xs) l r fl->f'=min (x.f+1) 65535->decide (x.f<65535)=r->iR x.q.a x.q.b x.q.c x.q.d=l->fl=1+(bif l then 8 else 0) ->
   Calls Tryz.prog 25 #[x.val,v] w fun e w'=>IL D w x xs e w':=fun f' l r br fl hrun hf' hr' hlk hfl=>by
   unfold Qz Qy at hrun;have h16:iJ f':=by rw [hf']; unfold iJ at *; omega
   have hi:=JL h1;refine(IK Qx hrun hgood ?_ w hw D hD [v] (hvw (α:=Unit)) hone Ue).mono ?_
   . unfold bOb
     rw [rY h1];exact qx (akk hi h16 h3) (oV (Bl (agO (by rw [X5]; exact hlk))) (oV (Bl (zH _ _ _ _ hi h16 h3)) (oV (Bl (aU hr')) (oV (Bl hsum) (oV (Bl (zH _ _ _ _ h1 h2 h3)) OZ)))))
   . rintro e w' ⟨⟨us,ha,rfl⟩,hc⟩
     match us,ha with
     | [y0,y1,y2],ha =>
      obtain⟨rfl,h5,rfl,_⟩:=ha;rw [rY h1] at h5;unfold Ef at h5;have h6:=h5.1;rw [R_ x.q.a x.q.b x.q.c x.q.d (fl:=1) (by omega) (by rw [hfl,hlk]),IB,aaP] at h6;unfold IL;rw [en,ef,<- hf',rY h1];exact⟨⟨y1,rfl,h6,h5.2⟩,hc⟩
  by_cases hf:x.f<65535
  . have e1:IntKind.i64.wrap (x.f+1)=min (x.f+1) 65535:=by unfold iJ at h2; rw [IntKind.wrap_i64]; omega
    cases hlk:iR x.q.a x.q.b x.q.c x.q.d with
    | false=>exact go _ _ _ _ _ (agX _ _ _ _ _ _ _ _) e1 (decide_eq_true hf) hlk rfl
    | true=>exact go _ _ _ _ _ (agY _ _ _ _ _ _ _ _) e1 (decide_eq_true hf) hlk rfl
  . have e1:x.f=min (x.f+1) 65535:=by unfold iJ at h2; omega
    cases hlk:iR x.q.a x.q.b x.q.c x.q.d with
    | false=>exact go _ _ _ _ _ (agV _ _ _ _ _ _ _ _) e1 (decide_eq_false hf) hlk rfl
    | true=>exact go _ _ _ _ _ (agW _ _ _ _ _ _ _ _) e1 (decide_eq_false hf) hlk rfl
end Xi

namespace Xi
open Go Go.RowKit Go.Deep
def h1(n b:Int):Int:=IntKind.i64.wrap (IntKind.i64.wrap (256*n)+IntKind.i64.wrap b)
def n2(B:Nat->Int)(k:Nat):Int:=h1 (IntKind.i64.wrap (B k)) (B (k+1))
def n4(B:Nat->Int)(k:Nat):Int:=(kW (h1 (h1 (h1 (h1 0 (B k)) (B (k+1))) (B (k+2))) (B (k+3)))).v
def St.rep(x:St)(fl:Int):Value:=.agg #[.int .i64 (fl+(bif iR x.q.a x.q.b x.q.c x.q.d then 8 else 0)),.int .i64 x.s,.int .i64 x.f,.int .i64 x.g,.int .i32 x.q.a.v,.int .i32 x.q.b.v,.int .i32 x.q.c.v,.int .i32 x.q.d.v,
 .int .i32 ((gQ x.q.a x.q.b x.q.c x.q.d).a.v / 65536),.int .i32 ((gQ x.q.a x.q.b x.q.c x.q.d).b.v / 65536),.int .i32 ((gQ x.q.a x.q.b x.q.c x.q.d).c.v / 65536)]
theorem wr(b:Nat)(h:b<256):IntKind.i64.wrap (b:Int)=b:=wrapN b (by omega)
theorem ahb{y:Int}(h:-32768<=y/\y<=32767):qy (bC y 256:Nat) (bC y 1:Nat)=y:=by
 unfold qy bC;omega
end Xi

namespace Xi
open Go Go.RowKit Go.Deep
attribute [local go_sem] Oper.semAt_some
theorem or8(h l:Nat)(hl:l<256):256*h ||| l=256*h+l:=by
 rw [show 256*h=2 ^ 8*h by omega,Nat.two_pow_add_eq_or_of_lt (i:=8) (by omega) h]
theorem axv(h l:Nat)(hh:h<256)(hl:l<256):bits .or .i64 ((256*h:Nat):Int) (l:Int)=((256*h+l:Nat):Int):=by
 show IntKind.i64.wrap (((BitVec.ofInt 64 ((256*h:Nat):Int)) ||| (BitVec.ofInt 64 (l:Int))).toNat:Int)=_;rw [BitVec.ofInt_natCast,BitVec.ofInt_natCast,BitVec.toNat_or,BitVec.toNat_ofNat,BitVec.toNat_ofNat,Nat.mod_eq_of_lt (by omega:256*h<2 ^ 64),Nat.mod_eq_of_lt (by omega:l<2 ^ 64),or8 h l hl,IntKind.wrap_i64];omega
theorem axw(h l:Nat)(hh:h<256)(hl:l<256):bits .or .u16 ((256*h:Nat):Int) (l:Int)=((256*h+l:Nat):Int):=by
 show IntKind.u16.wrap (((BitVec.ofInt 16 ((256*h:Nat):Int)) ||| (BitVec.ofInt 16 (l:Int))).toNat:Int)=_;rw [BitVec.ofInt_natCast,BitVec.ofInt_natCast,BitVec.toNat_or,BitVec.toNat_ofNat,BitVec.toNat_ofNat,Nat.mod_eq_of_lt (by omega:256*h<2 ^ 16),Nat.mod_eq_of_lt (by omega:l<2 ^ 16),or8 h l hl,IntKind.wrap_u16];omega
theorem asO(h l:Nat)(hh:h<16777216)(hl:l<256):bits .or .u32 ((256*h:Nat):Int) (l:Int)=((256*h+l:Nat):Int):=by
 show IntKind.u32.wrap (((BitVec.ofInt 32 ((256*h:Nat):Int)) ||| (BitVec.ofInt 32 (l:Int))).toNat:Int)=_;rw [BitVec.ofInt_natCast,BitVec.ofInt_natCast,BitVec.toNat_or,BitVec.toNat_ofNat,BitVec.toNat_ofNat,Nat.mod_eq_of_lt (by omega:256*h<2 ^ 32),Nat.mod_eq_of_lt (by omega:l<2 ^ 32),or8 h l hl,IntKind.wrap_u32];omega
def j64(a b:Int):Int:=bits .or .i64 (IntKind.i64.wrap (IntKind.i64.wrap a*2 ^ 8)) (IntKind.i64.wrap b)
def j32(a b:Int):Int:=bits .or .u32 (IntKind.u32.wrap (a*2 ^ 8)) (IntKind.u32.wrap b)
def f32 (a b c d:Int):Int:=IntKind.i32.wrap (j32 (j32 (j32 (bits .or .u32 0 (IntKind.u32.wrap a)) b) c) d)
def p16(a b:Int):Int:=IntKind.i32.wrap (IntKind.i16.wrap (bits .or .u16 (IntKind.u16.wrap (IntKind.u16.wrap a*2 ^ 8)) (IntKind.u16.wrap b)))
theorem asP{a b:Nat}(ha:a<256)(hb:b<256):j64 (a:Int) (b:Int)=((256*a+b:Nat):Int):=by
 unfold j64;rw [show IntKind.i64.wrap (IntKind.i64.wrap (a:Int)*2 ^ 8)=((256*a:Nat):Int) by rw [IntKind.wrap_i64,IntKind.wrap_i64]; omega,wr b hb,axv a b ha hb]
theorem Yi{a b:Nat}(ha:a<16777216)(hb:b<256):j32 (a:Int) (b:Int)=((256*a+b:Nat):Int):=by
 unfold j32;rw [show IntKind.u32.wrap ((a:Int)*2 ^ 8)=((256*a:Nat):Int) by rw [IntKind.wrap_u32]; omega,show IntKind.u32.wrap (b:Int)=(b:Int) by rw [IntKind.wrap_u32]; omega,asO a b ha hb]
theorem asQ{a b c d:Nat}(ha:a<256)(hb:b<256)(hc:c<256)(hd:d<256):f32 (a:Int) (b:Int) (c:Int) (d:Int)=IntKind.i32.wrap ((256*(256*(256*a+b)+c)+d:Nat):Int):=by
 unfold f32
 have h0:bits .or .u32 0 (IntKind.u32.wrap (a:Int))=(a:Int):=by
  rw [show IntKind.u32.wrap (a:Int)=(a:Int) by rw [IntKind.wrap_u32]; omega];have:=asO 0 a (by decide) ha
  simpa using this
 rw [h0,Yi (by omega) hb,Yi (by omega) hc,Yi (by omega) hd]
theorem asR{a b:Nat}(ha:a<256)(hb:b<256):p16 (a:Int) (b:Int)=qy (a:Int) (b:Int):=by
 unfold p16;rw [show IntKind.u16.wrap (IntKind.u16.wrap (a:Int)*2 ^ 8)=((256*a:Nat):Int) by rw [IntKind.wrap_u16,IntKind.wrap_u16]; omega,show IntKind.u16.wrap (b:Int)=(b:Int) by rw [IntKind.wrap_u16]; omega,axw a b ha hb,show ∀ n:Int,IntKind.i16.wrap n=(n+32768)%65536 - 32768 from fun n=>by simp [IntKind.wrap,IntKind.bits,IntKind.signed]; omega,IntKind.wrap_i32];unfold qy;omega
def adO (B:Nat->Int):Value:=.agg #[.int .i64 (IntKind.i64.wrap (B 1)),.int .i64 (j64 (B 2) (B 3)),.int .i64 (j64 (B 4) (B 5)),.int .i64 (j64 (B 6) (B 7)),.int .i32 (f32 (B 8) (B 9) (B 10) (B 11)),.int .i32 (f32 (B 12) (B 13) (B 14) (B 15)),.int .i32 (f32 (B 16) (B 17) (B 18) (B 19)),.int .i32 (f32 (B 20) (B 21) (B 22) (B 23)),.int .i32 (p16 (B 24) (B 25)),.int .i32 (p16 (B 26) (B 27)),.int .i32 (p16 (B 28) (B 29))]
theorem akq (B:Nat->Int):AY (NW [] [] [(31,false),(33,false)] [bQ 30 0]) (Dp (K:=gZ) []) 3000 75 [bQ 30 0] [.vw 1000000 0 30] (vb B 30) =
 some (true,[.v (adO B),.v .nilIface],[.test (.bin .neq 3) [.int .i64 (bits .andNot .i64 (IntKind.i64.wrap (B 1)) 15),.int .i64 0] (.bool false),.test (.bin .neq 5) [.int .u8 (B 0),.int .u8 1] (.bool false)]):=by kernel_rfl
theorem auK{xs:List Nat}(h:xs.length=30):vb (xI xs) 30=bU xs/\ay (dV (vb (xI xs) 30)) (bQ 30 0)=bU xs:=by
 match xs,h with
 | [x0,x1,x2,x3,x4,x5,x6,x7,x8,x9,x10,x11,x12,x13,x14,x15,x16,x17,x18,x19,x20,x21,x22,x23,x24,x25,x26,x27,x28,x29],_=>exact⟨rfl,rfl⟩
theorem JU(x:Wd):f32 (bC x.v 16777216:Nat) (bC x.v 65536:Nat) (bC x.v 256:Nat) (bC x.v 1:Nat)=x.v:=by
 rw [asQ (oU _ _) (oU _ _) (oU _ _) (oU _ _),IntKind.wrap_i32];have hx:=wdB x;unfold bC;omega
theorem QB{s:Int}(h:iJ s):j64 (bC s 256:Nat) (bC s 1:Nat)=s:=by
 rw [asP (oU _ _) (oU _ _)];unfold iJ at h;unfold bC;omega
theorem QC{y:Int}(h:-32768<=y/\y<=32767):p16 (bC y 256:Nat) (bC y 1:Nat)=y:=by
 rw [asR (oU _ _) (oU _ _),ahb h]
theorem akr(x:St)(hr:x.right){fl:Int}(h:0<=fl/\fl<=7):adO (xI ((x.frame fl).take 30))=x.rep fl:=by
 have hF:IntKind.i64.wrap (((fl+(bif iR x.q.a x.q.b x.q.c x.q.d then 8 else 0)).toNat:Nat):Int)=fl+(bif iR x.q.a x.q.b x.q.c x.q.d then 8 else 0):=by
  rw [IntKind.wrap_i64]
  cases iR x.q.a x.q.b x.q.c x.q.d<;>simp<;>omega
 have ha:∀ y:Wd,-32768<=y.v / 65536/\y.v / 65536<=32767:=fun y=>by have:=wdB y; omega
 have e:adO (xI ((x.frame fl).take 30))=.agg #[.int .i64 (IntKind.i64.wrap (((fl+(bif iR x.q.a x.q.b x.q.c x.q.d then 8 else 0)).toNat:Nat):Int)),.int .i64 (j64 (bC x.s 256:Nat) (bC x.s 1:Nat)),.int .i64 (j64 (bC x.f 256:Nat) (bC x.f 1:Nat)),.int .i64 (j64 (bC x.g 256:Nat) (bC x.g 1:Nat)),
  .int .i32 (f32 (bC x.q.a.v 16777216:Nat) (bC x.q.a.v 65536:Nat) (bC x.q.a.v 256:Nat) (bC x.q.a.v 1:Nat)),.int .i32 (f32 (bC x.q.b.v 16777216:Nat) (bC x.q.b.v 65536:Nat) (bC x.q.b.v 256:Nat) (bC x.q.b.v 1:Nat)),
  .int .i32 (f32 (bC x.q.c.v 16777216:Nat) (bC x.q.c.v 65536:Nat) (bC x.q.c.v 256:Nat) (bC x.q.c.v 1:Nat)),.int .i32 (f32 (bC x.q.d.v 16777216:Nat) (bC x.q.d.v 65536:Nat) (bC x.q.d.v 256:Nat) (bC x.q.d.v 1:Nat)),
  .int .i32 (p16 (bC ((gQ x.q.a x.q.b x.q.c x.q.d).a.v / 65536) 256:Nat) (bC ((gQ x.q.a x.q.b x.q.c x.q.d).a.v / 65536) 1:Nat)),.int .i32 (p16 (bC ((gQ x.q.a x.q.b x.q.c x.q.d).b.v / 65536) 256:Nat) (bC ((gQ x.q.a x.q.b x.q.c x.q.d).b.v / 65536) 1:Nat)),.int .i32 (p16 (bC ((gQ x.q.a x.q.b x.q.c x.q.d).c.v / 65536) 256:Nat) (bC ((gQ x.q.a x.q.b x.q.c x.q.d).c.v / 65536) 1:Nat))]:=by kernel_rfl
 rw [e,hF,QB hr.1,QB hr.2.1,QB hr.2.2,JU,JU,JU,JU,QC (ha _),QC (ha _),QC (ha _)];rfl
theorem adP (x:St) (hr:x.right) {fl:Int} (h:0<=fl/\fl<=7) (v:Value) (w:World) (hw:gZ w) (hv:Sl w v (bU ((x.frame fl).take 30))) :
 Calls Tryz.prog 75 #[v] w fun e w'=>e=.returned (.tuple #[x.rep fl,.nilIface])/\ah w w' []:=by
 have hl:((x.frame fl).take 30).length=30:=by rw [List.length_take,iQ]; rfl
 have hlt:∀ y∈(x.frame fl).take 30,y<256:=fun y hy=>Bq x h y (List.mem_of_mem_take hy);obtain⟨g1,g2⟩:=auK hl;have t0:xI ((x.frame fl).take 30) 0=1:=rfl;have t1:xI ((x.frame fl).take 30) 1=(((fl+(bif iR x.q.a x.q.b x.q.c x.q.d then 8 else 0)).toNat:Nat):Int):=rfl
 have auL:(bits .andNot .i64 (IntKind.i64.wrap (xI ((x.frame fl).take 30) 1)) 15 != 0)=false:=by
  have hall:∀ n:Nat,n<16->(bits .andNot .i64 (IntKind.i64.wrap (n:Int)) 15 != 0)=false:=by decide
  rw [t1];exact hall _ (by cases iR x.q.a x.q.b x.q.c x.q.d<;>simp<;>omega)
 have axx:∀ ob∈([.test (.bin .neq 3) [.int .i64 (bits .andNot .i64 (IntKind.i64.wrap (xI ((x.frame fl).take 30) 1)) 15),.int .i64 0] (.bool false),.test (.bin .neq 5) [.int .u8 (xI ((x.frame fl).take 30) 0),.int .u8 1] (.bool false)]:List Ob),kF Tryz.prog gZ ob:=by
  refine oV (Bl ?_) (oV (Bl ?_) OZ)
  . have:=alL 3 .i64 (bits .andNot .i64 (IntKind.i64.wrap (xI ((x.frame fl).take 30) 1)) 15) 0
    rw [auL] at this;exact this
  . have:=alL 5 .u8 (xI ((x.frame fl).take 30) 0) 1
    rw [show(xI ((x.frame fl).take 30) 0 != 1)=false by rw [t0]; rfl] at this;exact this
 have hone:∀ u∈([v]:List Value),u.oneCell'=true:=fun u hu=>by
  simp at hu;subst hu;obtain⟨A,c,rfl,_⟩:=hv;rfl
 have Ue:ay (E0 (ρS (vb (xI ((x.frame fl).take 30)) 30) [v])) [.vw 1000000 0 30]=[v]:=by
  obtain⟨A,c,rfl,hc,hA⟩:=hv;obtain⟨b,o,rfl,_⟩:=hA (by rw [fD]; omega);have e:ay (E0 (ρS (vb (xI ((x.frame fl).take 30)) 30) [.slice (some ⟨b,o,none⟩) (bU ((x.frame fl).take 30)).length c])) [.vw 1000000 0 30]=[.slice (some ⟨b,o+0,none⟩) 30 (c - 0)]:=rfl;rw [e,fD,hl];rfl
 refine(Y9 [] (akq (xI ((x.frame fl).take 30))) (by rw [g1]; exact X9 hlt) axx w hw [v] (fun i cs hi=>?_) hone Ue).mono ?_
 . cases i with
   | succ i=>simp at hi
   | zero =>
    simp at hi;subst hi;exact⟨v,rfl,by rw [g2]; exact hv⟩
 . rintro e w' ⟨⟨us,ha,rfl⟩,hc⟩
   match us,ha with
   | [y,z],ha =>
    obtain⟨rfl,rfl,_⟩:=ha;rw [akr x hr h];exact⟨rfl,hc⟩
theorem adQ(w:World):Calls Tryz.prog 76 #[.nilIface] w fun e w'=>e=.returned (.int .i64 0)/\w=w':=by
 go_enter Tryz.func76,Tryz.ntmps76
 go_wp2;go_ret;exact⟨rfl,rfl⟩
theorem aks(x:St)(fl:Int):ny (x.frame fl) 30=true:=by
 have e:ny (x.frame fl) 30=(bP 65535 ((x.frame fl).take 30) / 256==bP 65535 ((x.frame fl).take 30) / 256&&bP 65535 ((x.frame fl).take 30)%256==bP 65535 ((x.frame fl).take 30)%256):=rfl;rw [e];simp
theorem adR{fn:Func}{c t:Tmp}{T:TypeId}(h:fn.results=#[.cell c T,.tmp t])(tmps:Array Value)(P:Program)(w:World){A:Addr}{v:Value}(ha:tmps.getD c undef=.pointer (some A))(hl:(loadVar T A).run P w=.ok v w) :
 (results fn tmps).run P w=.ok (.tuple #[v,tmps.getD t undef]) w:=by
 have e:results fn tmps=(do let vs <- fn.results.mapM (Xi.G6 tmps); pure (if h:vs.size=1 then vs[0] else .tuple vs)):=rfl;rw [e,h,Array.mapM_eq_mapM_toList];simp [Xi.G6,ha,asAddr,hl]
theorem adS (x:St) (hr:x.right) {fl:Int} (h:0<=fl/\fl<=7) (v:Value) (w:World) (hw:∀ w',ah w w' []->gZ w') (hv:Sl w v (bU (x.frame fl))) :
 Calls Tryz.prog 43 #[v] w fun e w'=>e=.returned (.tuple #[x.rep fl,.int .i64 0])/\ah w w' []:=by
 obtain⟨A,m,rfl,hc,hA⟩:=id hv;obtain⟨g,off,rfl,_⟩:=hA (by rw [fD,iQ]; decide);rw [show(bU (x.frame fl)).length=32 by rw [fD,iQ]] at hv ⊢
 have HO:=hide (show ∀ w1,ah w w1 []->Calls Tryz.prog 74 #[.slice (some ⟨g,off,none⟩) 32 m] w1 fun e w'=>ah w1 w' []/\∃ y,e=.returned (.tuple #[y,.int .i64 0])/\Sl w' y (bU ((x.frame fl).take 30)) from fun w1 h1=>by
  have:=S_ (x.frame fl) 30 g off m w1 (iQ x fl) (Bq x h) (hv.keep h1) (by decide) (hw w1 h1);rw [aks] at this
  exact this)
 have HRD:=hide (show ∀ w1 y,ah w w1 []->Sl w1 y (bU ((x.frame fl).take 30))->Calls Tryz.prog 75 #[y] w1 fun e w'=>e=.returned (.tuple #[x.rep fl,.nilIface])/\ah w1 w' [] from fun w1 y h1 h2=>adP x hr h y w1 (hw w1 h1) h2);have b0:=aC.new w 58 [.int .i64 0,.int .i64 0,.int .i64 0,.int .i64 0,.int .i32 0,.int .i32 0,.int .i32 0,.int .i32 0,.int .i32 0,.int .i32 0,.int .i32 0];have hcA:=(ah.refl w []).alloc (.cells #[.int .i64 0,.int .i64 0,.int .i64 0,.int .i64 0,.int .i32 0,.int .i32 0,.int .i32 0,.int .i32 0,.int .i32 0,.int .i32 0,.int .i32 0] 58);have hn:=adQ;have axy:(bU ((x.frame fl).take 30)).length=30:=by rw [fD,List.length_take,iQ]; rfl
 obtain⟨r0,r1,r2,r3,r4,r5,r6,r7,r8,r9,r10,hrep⟩:∃ r0 r1 r2 r3 r4 r5 r6 r7 r8 r9 r10:Int,x.rep fl=.agg #[.int .i64 r0,.int .i64 r1,.int .i64 r2,.int .i64 r3,.int .i32 r4,.int .i32 r5,.int .i32 r6,.int .i32 r7,.int .i32 r8,.int .i32 r9,.int .i32 r10]:=⟨_,_,_,_,_,_,_,_,_,_,_,rfl⟩
 rw [hrep] at HRD ⊢;clear hc hA hv hw hrep;generalize bU ((x.frame fl).take 30)=bs at *;go_enter Tryz.func43,Tryz.ntmps43
 go_wp2_with fail
 go_at_call 74;refine(HO.out _ hcA).mono ?_;rintro e w1 ⟨hc1,y,rfl,hy⟩;have hrd:=HRD.out w1 y (hcA.trans hc1 (by simp)) hy;obtain⟨Ay,cy,rfl,_⟩:=id hy;rw [axy] at hrd ⊢;have hcB:=hcA.trans hc1 (D:=[]) (by simp);replace b0:=b0.aj hc1 (by simp);have HR:=hide hrd;clear hc1 hy hrd HO HRD hcA;go_wp2_with fail
 go_at_call 75;refine HR.out.mono ?_;rintro e w2 ⟨rfl,hc2⟩;replace hcB:=hcB.trans hc2 (D:=[]) (by simp);replace b0:=b0.aj hc2 (by simp);have b1:=aC.new w2 58 [.int .i64 r0,.int .i64 r1,.int .i64 r2,.int .i64 r3,.int .i32 r4,.int .i32 r5,.int .i32 r6,.int .i32 r7,.int .i32 r8,.int .i32 r9,.int .i32 r10];have hl0:=b0.lt;clear HR hc2;go_wp2_with fail
 go_at_call 76;refine(hn _).mono ?_;rintro e w3 ⟨rfl,hw3⟩
 have hb1:aC w3 w2.heap.size 58 [.int .i64 r0,.int .i64 r1,.int .i64 r2,.int .i64 r3,.int .i32 r4,.int .i32 r5,.int .i32 r6,.int .i32 r7,.int .i32 r8,.int .i32 r9,.int .i32 r10]:=by
  rw [<- hw3];exact b1
 have hb0:aC w3 w.heap.size 58 [.int .i64 0,.int .i64 0,.int .i64 0,.int .i64 0,.int .i32 0,.int .i32 0,.int .i32 0,.int .i32 0,.int .i32 0,.int .i32 0,.int .i32 0]:=by
  rw [<- hw3];exact b0.alloc _
 have hcC:ah w w3 []:=by
  rw [<- hw3];exact hcB.alloc _
 clear hcB b0 b1 hl0 hw3 hn;have f0:=hb0.frozen 0;have y0:=hb0.cell' (i:=0) rfl;have z0:=hb1.cell' (i:=0) rfl;have f1:=hb0.frozen 1;have y1:=hb0.cell' (i:=1) rfl;have z1:=hb1.cell' (i:=1) rfl;have f2:=hb0.frozen 2;have y2:=hb0.cell' (i:=2) rfl;have z2:=hb1.cell' (i:=2) rfl;have f3:=hb0.frozen 3;have y3:=hb0.cell' (i:=3) rfl;have z3:=hb1.cell' (i:=3) rfl;have f4:=hb0.frozen 4;have y4:=hb0.cell' (i:=4) rfl;have z4:=hb1.cell' (i:=4) rfl;have f5:=hb0.frozen 5;have y5:=hb0.cell' (i:=5) rfl;have z5:=hb1.cell' (i:=5) rfl;have f6:=hb0.frozen 6;have y6:=hb0.cell' (i:=6) rfl;have z6:=hb1.cell' (i:=6) rfl;have f7:=hb0.frozen 7;have y7:=hb0.cell' (i:=7) rfl;have z7:=hb1.cell' (i:=7) rfl;have f8:=hb0.frozen 8;have y8:=hb0.cell' (i:=8) rfl;have z8:=hb1.cell' (i:=8) rfl;have f9:=hb0.frozen 9;have y9:=hb0.cell' (i:=9) rfl;have z9:=hb1.cell' (i:=9) rfl;have f10:=hb0.frozen 10;have y10:=hb0.cell' (i:=10) rfl;have z10:=hb1.cell' (i:=10) rfl;have hbf:=(((((((((((hb0.aK 0 (.int .i64 r0)).aK 1 (.int .i64 r1)).aK 2 (.int .i64 r2)).aK 3 (.int .i64 r3)).aK 4 (.int .i32 r4)).aK 5 (.int .i32 r5)).aK 6 (.int .i32 r6)).aK 7 (.int .i32 r7)).aK 8 (.int .i32 r8)).aK 9 (.int .i32 r9)).aK 10 (.int .i32 r10))
 have Gq:=(show ah _ _ [w.heap.size] from((((((((((((ah.refl w3 [w.heap.size]).setCell ⟨w.heap.size,0,none⟩ (.int .i64 r0) (.inl (List.mem_singleton.2 rfl))).setCell ⟨w.heap.size,1,none⟩ (.int .i64 r1) (.inl (List.mem_singleton.2 rfl))).setCell ⟨w.heap.size,2,none⟩ (.int .i64 r2) (.inl (List.mem_singleton.2 rfl))).setCell ⟨w.heap.size,3,none⟩ (.int .i64 r3) (.inl (List.mem_singleton.2 rfl))).setCell ⟨w.heap.size,4,none⟩ (.int .i32 r4) (.inl (List.mem_singleton.2 rfl))).setCell ⟨w.heap.size,5,none⟩ (.int .i32 r5) (.inl (List.mem_singleton.2 rfl))).setCell ⟨w.heap.size,6,none⟩ (.int .i32 r6) (.inl (List.mem_singleton.2 rfl))).setCell ⟨w.heap.size,7,none⟩ (.int .i32 r7) (.inl (List.mem_singleton.2 rfl))).setCell ⟨w.heap.size,8,none⟩ (.int .i32 r8) (.inl (List.mem_singleton.2 rfl))).setCell ⟨w.heap.size,9,none⟩ (.int .i32 r9) (.inl (List.mem_singleton.2 rfl))).setCell ⟨w.heap.size,10,none⟩ (.int .i32 r10) (.inl (List.mem_singleton.2 rfl))))
 have q0:=hbf.cell' (i:=0) rfl;have q1:=hbf.cell' (i:=1) rfl;have q2:=hbf.cell' (i:=2) rfl;have q3:=hbf.cell' (i:=3) rfl;have q4:=hbf.cell' (i:=4) rfl;have q5:=hbf.cell' (i:=5) rfl;have q6:=hbf.cell' (i:=6) rfl;have q7:=hbf.cell' (i:=7) rfl;have q8:=hbf.cell' (i:=8) rfl;have q9:=hbf.cell' (i:=9) rfl;have q10:=hbf.cell' (i:=10) rfl;go_wp2;refine bodyPost_ret (adR rfl _ _ _ (A:=⟨w.heap.size,0,none⟩) rfl (v:=.agg #[.int .i64 r0,.int .i64 r1,.int .i64 r2,.int .i64 r3,.int .i32 r4,.int .i32 r5,.int .i32 r6,.int .i32 r7,.int .i32 r8,.int .i32 r9,.int .i32 r10]) ?_) rfl ?_
 . clear f0 y0 z0 f1 y1 z1 f2 y2 z2 f3 y3 z3 f4 y4 z4 f5 y5 z5 f6 y6 z6 f7 y7 z7 f8 y8 z8 f9 y9 z9 f10 y10 z10
   go_simp
 . exact⟨rfl,hcC.trans Gq (fun k hk=>.inr (by simp at hk; omega))⟩
