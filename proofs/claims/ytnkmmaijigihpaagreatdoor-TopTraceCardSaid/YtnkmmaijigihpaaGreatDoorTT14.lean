/- Texts of this claim, side by side: Tab, View, RunA, RunB, RunC, RunD, MillM, PureW. -/
import Derived.Test.YtnkmmaijigihpaaGreatDoorXiV
import Derived.Test.YtnkmmaijigihpaaGreatDoorTT10
set_option linter.unusedVariables false
set_option linter.unusedSimpArgs false
namespace Go.Proofs.YtnkmmaijigihpaaGreatDoor
namespace Xi
open Go Go.RowKit
structure He where
 f:FuncId
 fn:List Value->Option Value
 ok:∀ us v,fn us = some v->(∀ u∈us,good1 u)->uJ v/\∀ w:World,Calls Tryz.prog f us.toArray w fun e w' => e = .returned v/\ah w w' []
def Gi:List He->Tab
 | [],_,_ => none
 | e :: l,f,us => bif Nat.beq e.f f then e.fn us else Gi l f us
theorem Tf:∀ l:List He,Yd Tryz.prog (Gi l)
 | [],f,us,v,h,hg => by cases h
 | e :: l,f,us,v,h,hg => by
  unfold Gi at h
  cases hb:Nat.beq e.f f with
  | true =>
   rw [hb] at h;obtain rfl:=beq_iff.1 hb;exact e.ok us v h hg
  | false =>
   rw [hb] at h;exact Tf l f us v h hg
inductive Sh where
 | one
 | agg (n:Nat)
 | two (a b:Sh)
 | three (a b c:Sh)
def kH:Nat->Nat->List AV
 | 0,_ => []
 | n + 1,i => .opq i :: kH n (Nat.succ i)
def Sh.mk:Sh->Nat->AV × Nat
 | .one,nv => (.opq nv,1)
 | .agg n,nv => (.agg (kH n nv),n)
 | .two a b,nv => match Sh.mk a nv with | (x,i) => match Sh.mk b (nv + i) with | (y,j) => (.jk [x,y],i + j)
 | .three a b c,nv => match Sh.mk a nv with | (x,i) => match Sh.mk b (nv + i) with | (y,j) => match Sh.mk c (nv + i + j) with | (z,k) => (.jk [x,y,z],i + j + k)
def alg:List (FuncId × Sh)->FuncId->Option Sh
 | [],_ => none
 | (g,s) :: l,f => bif Nat.beq g f then some s else alg l f
def agQ:List (FuncId × AV)->FuncId->Option AV
 | [],_ => none
 | (g,s) :: l,f => bif Nat.beq g f then some s else agQ l f
def alh:List (Nat × Bool)->Nat->Option Bool
 | [],_ => none
 | (g,s) :: l,f => bif Nat.beq g f then some s else alh l f
noncomputable def cxR (lits:List (FuncId × AV)) (shs:List (FuncId × Sh)) (br:List (Nat × Bool)):Cx where
 P:=Tryz.prog
 ev:=fun f _ nv => match agQ lits f with
  | some a => some (a,0)
  | none => match alg shs f with
   | some s => some (s.mk nv)
   | none => none
 lp:=fun _ => false
 mt:=fun _ _ => none
 br:=alh br
theorem Oj {lits:List (FuncId × AV)} {shs:List (FuncId × Sh)} {br:List (Nat × Bool)} (l:List He) {fuel:Nat} {f:FuncId} {args:List AV} {ins:List Value} {out:Value} {obs:List Ob}
 (h:QX (cxR lits shs br) (Gi l) fuel f args ins = some (out,obs)) (hg:iW ins) (ho:∀ ob∈obs,BR Tryz.prog ob) (w:World) :
 Calls Tryz.prog f (aB (dY ins) args).toArray w fun e w' => e = .returned out/\ah w w' [] :=
 Yf (cx:=cxR lits shs br) (by kernel_rfl) (fun t n g h => by cases h) (Tf l) h hg ho w
theorem ali (x:Wd):fC (.int .i32 x.v):=by
 have:=x.ok;unfold aC at this;simp only [fC,Lit.wf,IntKind.min,IntKind.max,IntKind.signed,IntKind.bits];simp;omega
theorem aip (x:Wd):kW x.v = x:=Wd.fE (Es x.ok)
theorem Zk {n:Int} (h:fC (.int .i32 n)):aC n:=by
 simp only [fC,Lit.wf,IntKind.min,IntKind.max,IntKind.signed,IntKind.bits] at h;simp at h;unfold aC;omega
theorem oM {k:IntKind} {n:Int} (h:good1 (.int k n)):fC (.int k n):=by
 rcases h with h | ⟨ds,h,_⟩
 . exact h
 . cases h
theorem yH {n:Int} (h:fC (.int .i64 n)):-9223372036854775808<=n/\n<=9223372036854775807:=by
 simp only [fC,Lit.wf,IntKind.min,IntKind.max,IntKind.signed,IntKind.bits] at h;simp at h;omega
theorem aiq {n:Int} (h:-9223372036854775808<=n/\n<=9223372036854775807):fC (.int .i64 n):=by
 simp only [fC,Lit.wf,IntKind.min,IntKind.max,IntKind.signed,IntKind.bits];simp;omega
def f3 (R:Wd->Wd->Wd->Value):List Value->Option Value
 | [.int .i32 a,.int .i32 b,.int .i32 c] => some (R (kW a) (kW b) (kW c))
 | _ => none
def g1 (R:Int->Value):List Value->Option Value
 | [.int .i64 a] => some (R a)
 | _ => none
theorem air (x:Wd):uJ (.int .i32 x.v):=.inl (.inl (ali x))
theorem aeX {n:Int} (h:-9223372036854775808<=n/\n<=9223372036854775807):uJ (.int .i64 n):=.inl (.inl (aiq h))
def an8 (f:FuncId) (R:Int->Value) (h:∀ a:Int,-9223372036854775808<=a/\a<=9223372036854775807->uJ (R a)/\∀ w:World,Calls Tryz.prog f #[.int .i64 a] w fun e w' => e = .returned (R a)/\ah w w' []):He where
 f:=f
 fn:=g1 R
 ok:=fun us v hv hg => by
  unfold g1 at hv;split at hv
  . rename_i a
    injection hv with hv;subst hv;exact h a (yH (oM (hg (.int .i64 a) (by simp))))
  . cases hv
end Xi

namespace Xi
open Go Go.RowKit
theorem eF.nil {fp:List Nat} {w:World}:∀ {l:List Value} {cs:List CA},eF fp w l cs->eF [] w l cs
 | [],[],_ => trivial
 | a :: l,.v x :: cs,h => ⟨h.1,eF.nil h.2⟩
 | a :: l,.l xs :: cs,h => ⟨⟨h.1.1,fun _ _ _ _ hm => by cases hm⟩,eF.nil h.2⟩
 | [],_ :: _,h => h.elim
 | _ :: _,[],h => h.elim
def P7 (P:Program) (w0:World) (fps:List Nat) (K:World->Prop) (hK:∀ w:World,(∀ k∈fps,k < w.heap.size/\w.heap[k]? = w0.heap[k]?)->K w):fA P where
 σ:=Unit
 I:=fun _ w => ∀ k∈fps,k < w.heap.size/\w.heap[k]? = w0.heap[k]?
 fp:=fun _ _ => fps
 lt:=fun _ w h d hd => (h d hd).1
 keep:=fun _ w w' D h hf hD => ⟨fun k hk => ⟨Nat.lt_of_lt_of_le (h k hk).1 hf.size,(hf.block k (h k hk).1 (fun hd => hD k hd hk)).trans (h k hk).2⟩,rfl⟩
 step:=fun _ f cas v _ => ∀ (w:World) (args:List Value),K w->eF [] w args cas->Calls P f args.toArray w fun e w' => e = .returned v/\ah w w' []
 DV:=fun _ _ _ _ _ _ => False
 fin:=fun _ _ _ _ => False
 step_ok:=fun s w f args cas v s' hI ha hs => (hs w args (hK w hI) ha.nil).mono fun e w' ⟨he,hc⟩ =>
  ⟨he,fun k hk => ⟨Nat.lt_of_lt_of_le (hI k hk).1 hc.size,(hc.block k (hI k hk).1 (by simp)).trans (hI k hk).2⟩,((Fr.Aw hc).more (fun _ _ h => (by cases h))),fun d hd => .inl hd⟩
 FH:=fun _ _ _ _ _ _ _ _ _ _ _ _ _ hb => hb.elim
def Ez (vws:List (List AV)) (i:Nat):Option (List AV):=bif Nat.ble 1000000 i then nth vws (i - 1000000) else none
noncomputable def cxV (lits:List (FuncId × AV)) (shs:List (FuncId × Sh)) (br:List (Nat × Bool)) (vws:List (List AV)):Cx:={ cxR lits shs br with vw:=Ez vws }
def zB (g:G):AV->Option (Bool × List EA)
 | .jk vs => match eargs g vs with | some l => some (true,l) | none => none
 | v => match H_ g v with | some x => some (false,[x]) | none => none
def Ti:Bool->List Value->Value
 | true,vs => .tuple vs.toArray
 | false,[v] => v
 | false,_ => undef
def EA.kn (n:Nat):EA->Bool
 | .v (.lit _) => true
 | .v a => a.known n
 | .l cs => jR n cs
def eaL (n:Nat):List EA->Bool
 | [] => true
 | x :: l => x.kn n && eaL n l
mutual
def inV (n:Nat):AV->Bool
 | .lit _ => true
 | .opq i => Nat.blt i n
 | .vw i _ _ => Nat.ble 1000000 i
 | .agg cs => vT n cs
 | .jk vs => vT n vs
 | .fn _ a c => vT n a && vT n c
 | .qX _ v => inV n v
 | _ => false
def vT (n:Nat):List AV->Bool
 | [] => true
 | v :: l => inV n v && vT n l
end
def okV (n:Nat):List (List AV)->Bool
 | [] => true
 | cs :: l => h_ 0 cs && jR n cs && Nat.ble 1 (aG cs) && okV n l
def Tj (cx:Cx) (tab:Tab) (fuel:Nat) (f:FuncId) (vws:List (List AV)) (args:List AV) (ins:List Value):Option (Bool × List CA × List Ob) :=
 match iG cx fuel f args ⟨.nil,0,aG ins⟩ with
 | some (v,g,δ) => bif h_ 0 args && vT (aG ins) args && okV (aG ins) vws then (match rH cx tab δ ins [] with
  | some (ρ,obs) => bif Nat.ble (aG ρ) 1000000 then (match zB g v with
   | some (t,xs) => bif eaL (aG ρ) xs then some (t,xs.map (EA.ay (dY ρ)),obs) else none
   | none => none) else none
  | none => none) else none
 | none => none
def ρS (ρ:List Value) (ss:List Value) (i:Nat):Value:=if i < ρ.length then ρ.getD i (.int .i64 0) else ss.getD (i - 1000000) (.int .i64 0)
theorem ab1 (ρ ss:List Value):Ext ρ (ρS ρ ss):=fun i v h => by
 have hi:i < ρ.length:=(List.getElem?_eq_some_iff.1 h).1;unfold ρS;rw [if_pos hi,List.getD,h]; rfl
mutual
theorem Tn {ins τ ss:List Value} (hl:(ins ++ τ).length<=1000000):∀ (a:AV),inV (aG ins) a = true->a.ay (E0 (ρS (ins ++ τ) ss)) = a.ay (E0 (ρS ins ss))
 | .lit v,_ => rfl
 | .opq i,h => by
  have hi:i < ins.length:=by have:Nat.blt i (aG ins) = true:=h; rwa [aJ] at this
  show ρS (ins ++ τ) ss i = ρS ins ss i;unfold ρS;rw [if_pos hi,if_pos (by simp; omega),List.getD,List.getD,List.getElem?_append_left hi]
 | .vw i o n,h => by
  have hi:1000000<=i:=aY.1 h;show Jg (ρS (ins ++ τ) ss i) o n = Jg (ρS ins ss i) o n;unfold ρS;have:ins.length<=(ins ++ τ).length:=by simp
  rw [if_neg (by omega),if_neg (by omega)]
 | .agg cs,h => by simp only [AV.ay]; rw [oN hl cs h]
 | .jk vs,h => by simp only [AV.ay]; rw [oN hl vs h]
 | .fn f a c,h => by
  have h':(vT (aG ins) a && vT (aG ins) c) = true:=h;rw [Bool.and_eq_true] at h';simp only [AV.ay]; rw [oN hl a h'.1,oN hl c h'.2]
 | .ptr _ _,h => by cases h
 | .slc _ _ _ _,h => by cases h
 | .row _ _,h => by cases h
 | .qX t v,h => by
  have h':inV (aG ins) v = true:=h;simp only [AV.ay]; rw [Tn hl v h']
 | .vp _ _,h => by cases h
theorem oN {ins τ ss:List Value} (hl:(ins ++ τ).length<=1000000):∀ (l:List AV),vT (aG ins) l = true->aB (E0 (ρS (ins ++ τ) ss)) l = aB (E0 (ρS ins ss)) l
 | [],_ => rfl
 | v :: l,h => by
  simp only [vT,Bool.and_eq_true] at h;simp only [aB];rw [Tn hl v h.1,oN hl l h.2]
end
theorem Tq {n:Nat}:∀ {l:List (List AV)} {i:Nat} {cs:List AV},okV n l = true->l[i]? = some cs->h_ 0 cs = true/\jR n cs = true/\1<=cs.length
 | [],i,cs,h,hi => by cases hi
 | x :: l,0,cs,h,hi => by
  injection hi with hi;subst hi;simp only [okV,Bool.and_eq_true,aY,aG] at h;exact ⟨h.1.1.1,h.1.1.2,h.1.2⟩
 | x :: l,i + 1,cs,h,hi => by
  simp only [okV,Bool.and_eq_true] at h;exact Tq (l:=l) (i:=i) h.2 (by simpa using hi)
theorem Tt {ρ:List Value} {ρF:Nat->Value} (hF:Ext ρ ρF):∀ {xs:List EA},eaL (aG ρ) xs = true->xs.map (EA.ay (E0 ρF)) = xs.map (EA.ay (dY ρ))
 | [],_ => rfl
 | x :: l,h => by
  simp only [eaL,Bool.and_eq_true] at h;simp only [List.map_cons];rw [Tt hF h.2];congr 1
  cases x with
  | l cs => simp only [EA.ay]; rw [ji hF cs h.1]
  | v a =>
   cases a with
   | lit v => rfl
   | _ => simp only [EA.ay]; rw [wM hF _ h.1]
def fJ:Value->Option Nat
 | .slice (some ⟨b,_,none⟩) _ _ => some b
 | _ => none
theorem J3 {cx:Cx} {tab:Tab} {fuel:Nat} {f:FuncId} {vws:List (List AV)} {args:List AV} {ins:List Value} {t:Bool} {cas:List CA} {obs:List Ob} (dI:cx.P.follows .mixedOrders = true) (hmt:vM cx) {K:World->Prop} (hT:QW cx.P K tab) (hvw:cx.vw = Ez vws)
 (h:Tj cx tab fuel f vws args ins = some (t,cas,obs)) (hg:iW ins) (ho:∀ ob∈obs,o9 cx.P K ob) (w:World) (gs:List Nat) (hgs:∀ k∈gs,k < w.heap.size) (hK:∀ w1:World,(∀ k∈gs,w1.heap[k]? = w.heap[k]?)->K w1) (ss:List Value)
 (hss:∀ (i:Nat) cs,vws[i]? = some cs->∃ v,ss[i]? = some v/\Sl w v (aB (dY ins) cs)) (h1:∀ v∈ss,v.oneCell' = true) {vals:List Value} (hvs:aB (E0 (ρS ins ss)) args = vals) :
 Calls cx.P f vals.toArray w fun e w' => (∃ us,eF [] w' us cas/\e = .returned (Ti t us))/\ah w w' []:=by
 unfold Tj at h
 cases hc:iG cx fuel f args ⟨.nil,0,aG ins⟩ with
 | none => rw [hc] at h; cases h
 | some q =>
  obtain ⟨v,g',δ⟩:=q;rw [hc] at h;simp only [] at h
  cases hk:(h_ 0 args && vT (aG ins) args && okV (aG ins) vws) with
  | false => rw [hk] at h; cases h
  | true =>
   rw [hk] at h;simp only [cond_true] at h;simp only [Bool.and_eq_true] at hk;obtain ⟨⟨k1,k2⟩,k3⟩:=hk
   cases hr:rH cx tab δ ins [] with
   | none => rw [hr] at h; cases h
   | some q2 =>
    obtain ⟨ρ,obs'⟩:=q2;rw [hr] at h;simp only [] at h
    cases hlen:Nat.ble (aG ρ) 1000000 with
    | false => rw [hlen] at h; cases h
    | true =>
     rw [hlen] at h;rw [aY] at hlen;unfold aG at hlen;simp only [cond_true] at h
     cases he:zB g' v with
     | none => rw [he] at h; cases h
     | some q3 =>
      obtain ⟨t',xs⟩:=q3;rw [he] at h;simp only [] at h
      cases hx:eaL (aG ρ) xs with
      | false => rw [hx] at h; cases h
      | true =>
       rw [hx] at h;injection h with h; injection h with e1 h; injection h with e2 e3;subst e1 e2 e3;have hKv:∀ w1:World,(∀ k∈gs ++ ((ss.filterMap fJ).filter fun b => decide (b < w.heap.size)),k < w1.heap.size/\w1.heap[k]? = w.heap[k]?)->K w1:=fun w1 h => hK w1 fun k hk => (h k (List.mem_append.2 (.inl hk))).2;obtain ⟨⟨τ,hτ⟩,hgρ,_,hrun⟩:=tJ (M:=P7 cx.P w (gs ++ ((ss.filterMap fJ).filter fun b => decide (b < w.heap.size))) K hKv) (fun s f cas v hs => hs) hT hr hg ho;have hF:Ext ρ (ρS ρ ss):=ab1 ρ ss
       have hone:∀ i,(ρS ρ ss i).oneCell' = true:=fun i => by
        unfold ρS;split
        . rename_i hi
          simp only [List.getD,List.getElem?_eq_getElem hi,Option.getD_some];exact Nw (hgρ _ (List.getElem_mem hi))
        . cases hj:ss[i - 1000000]? with
          | none => rw [List.getD,hj]; rfl
          | some u => rw [List.getD,hj]; exact h1 u (List.mem_of_getElem? hj)
       have hvk:∀ i cs,cx.vw i = some cs->∃ b a n c,ρS ρ ss i = .slice (some ⟨b,a,none⟩) n c/\cs.length<=c/\h_ 0 cs = true/\b∈ss.filterMap fJ/\b < w.heap.size/\∀ k v,cs[k]? = some v->∀ E:Env,E.ρ = ρS ρ ss->w.cell? ⟨b,a + k,none⟩ = some (v.ay E):=fun i cs hi => by
        rw [hvw] at hi;unfold Ez at hi
        cases hb:Nat.ble 1000000 i with
        | false => rw [hb] at hi; cases hi
        | true =>
         rw [hb] at hi;rw [aY] at hb;simp only [cond_true] at hi;rw [oh] at hi;obtain ⟨z1,z2,z3⟩:=Tq k3 hi;obtain ⟨u,hu,hsl⟩:=hss _ _ hi;obtain ⟨A,c,rfl,hcap,hcell⟩:=hsl;rw [aQ] at hcap hcell;obtain ⟨b,a,rfl,hcell2⟩:=hcell (by omega);refine ⟨b,a,cs.length,c,?_,hcap,z1,?_,?_,?_⟩
         . unfold ρS
           rw [if_neg (by omega),List.getD,hu,aQ]; rfl
         . exact List.mem_filterMap.2 ⟨_,List.mem_of_getElem? hu,rfl⟩
         . have:=hcell2 0 (by omega)
           unfold World.cell? at this
           cases hb':w.heap[b]? with
           | none =>
            simp only [hb'] at this;rw [eq_comm,List.getElem?_eq_none_iff,aQ] at this;omega
           | some o => exact lt_of_heap hb'
         . intro k y hy E hE
           have hk':k < cs.length:=(List.getElem?_eq_some_iff.1 hy).1;rw [hcell2 k hk',dG,List.getElem?_map,hy];show some (y.ay (dY ins)) = some (y.ay E)
           have hFi:Ext ins (ρS ρ ss):=by
            have:=hF;rw [hτ] at this ⊢;exact this.of_append
           have e4:aB (E0 (ρS ρ ss)) cs = aB (dY ins) cs:=ji hFi cs z2;rw [dG,dG] at e4;have e5:=congrArg (fun l => l[k]?) e4;simp only [List.getElem?_map,hy,Option.map_some] at e5;rw [<- e5]
           have z4:y.lt 0 = true:=by
            unfold AV.lt;rw [aJ,pow_eq];refine dX fun q hq => ?_;have:=lM z1 (fM (List.mem_of_getElem? hy) hq);omega
           rw [qO (E:=E0 (ρS ρ ss)) (E':=E) z4 hE]
       have hI:(P7 cx.P w (gs ++ ((ss.filterMap fJ).filter fun b => decide (b < w.heap.size))) K hKv).I () w:=fun k hk => ⟨(List.mem_append.1 hk).elim (hgs k) (fun hk => by have:=(List.mem_filter.1 hk).2; simpa using this),rfl⟩
       obtain ⟨_,hcall⟩:=Il (M:=P7 cx.P w (gs ++ ((ss.filterMap fJ).filter fun b => decide (b < w.heap.size))) K hKv) (ρv:=ρS ρ ss) dI hmt hone (fun i cs hi => by
        obtain ⟨b,a,n,c,y1,y2,y3,y4,y5,y6⟩:=hvk i cs hi;refine ⟨b,a,n,c,y1,y2,y3,fun s w1 hw1 => ?_⟩;have hm:b∈gs ++ ((ss.filterMap fJ).filter fun b => decide (b < w.heap.size)):=List.mem_append.2 (.inr (List.mem_filter.2 ⟨y4,by simpa using y5⟩));refine ⟨hm,fun k u hu E hE => ?_⟩;have:=y6 k u hu E hE;unfold World.cell? at this ⊢;rw [show w1.heap[b]? = w.heap[b]? from (hw1 b hm).2]
        exact this) fuel |>.2 f args ⟨.nil,0,aG ins⟩ v g' δ hc
       have hrep:Rep (P7 cx.P w (gs ++ ((ss.filterMap fJ).filter fun b => decide (b < w.heap.size))) K hKv) (E0 (ρS ρ ss)) () (⟨.nil,0,aG ins⟩:G).at 0 w:=⟨hI,(fun b B hb => by have:=fQ hb; cases this),(fun b b' B B' hb => by have:=fQ hb; cases this),(fun b B hb => by have:=fQ hb; cases this),(fun b B hb => fQ hb)⟩
       have hcl:=hcall (E0 (ρS ρ ss)) () () w rfl hrep (fun u hu => by
        unfold AV.lt;rw [aJ,pow_eq];refine dX fun q hq => ?_;have:=lM k1 (fM hu hq)
        omega) (hrun _ hF ())
       have Tv:aB (E0 (ρS ρ ss)) args = vals:=by
        rw [<- hvs];subst hτ;exact oN hlen args k2
       rw [Tv] at hcl;refine hcl.mono ?_;rintro e w' ⟨E',rfl,hw⟩;refine ⟨?_,?_⟩
       . have eρ:E'.ρ = ρS ρ ss:=hw.rho
         have fin:∀ {l:List AV},eargs g' l = some xs->eF [] w' (aB E' l) (xs.map (EA.ay (dY ρ))):=fun {l} hl => by
          have:=(wL hw.rep hl).nil;rw [eρ,Tt hF hx] at this;exact this
         unfold zB at he;split at he
         . rename_i vs _
           cases hvs':eargs g' vs with
           | none => rw [hvs'] at he; cases he
           | some l =>
            rw [hvs'] at he;injection he with he; injection he with he1 he2;subst he1 he2;exact ⟨_,fin hvs',rfl⟩
         . cases hv':H_ g' v with
           | none => rw [hv'] at he; cases he
           | some x =>
            rw [hv'] at he;injection he with he; injection he with he1 he2;subst he1 he2;exact ⟨[v.ay E'],fin (l:=[v]) (by simp only [eargs,hv']),rfl⟩
       . refine ⟨hw.fr.os,hw.fr.tape,hw.fr.output,hw.fr.size,fun k hk _ => ?_⟩
         by_cases hm:k∈gs ++ ((ss.filterMap fJ).filter fun b => decide (b < w.heap.size))
         . exact (hw.rep.qy k hm).2
         . refine hw.fr.block k hk fun hd => ?_
           rcases hd with hd | ⟨b,B,hb,_⟩
           . exact hm hd
           . have:=fQ hb; cases this
end Xi

namespace Xi
open Go Go.RowKit
noncomputable def aqn:He:=an8 61 (fun x => .int .i32 (kW x).v) (fun x hx => ⟨air _,fun w => (acT x w hx).mono fun e w' ⟨he,hw⟩ => ⟨he,hw ▸ ah.refl w []⟩⟩)
def g2p (R:Int->Int->Value):List Value->Option Value
 | [.int .i64 a,.int .i64 b] => bif decide (0 < b) then some (R a b) else none
 | _ => none
noncomputable def amG:He where
 f:=103
 fn:=g2p fun x n => .int .i64 (x % n)
 ok:=fun us v hv hg => by
  unfold g2p at hv;split at hv
  . rename_i a b
    cases hb:decide (0 < b) with
    | false => rw [hb] at hv; cases hv
    | true =>
     rw [hb] at hv;injection hv with hv;subst hv;have h0:=of_decide_eq_true hb;have ha:=yH (oM (hg (.int .i64 a) (by simp)));have h1:=yH (oM (hg (.int .i64 b) (by simp)));have k0:=Int.emod_nonneg a (by omega:b≠0);have k1:=Int.emod_lt_of_pos a h0;refine ⟨aeX (by omega),fun w => (EP a b w ha ⟨h0,h1.2⟩).mono fun e w' ⟨he,hw⟩ => ⟨he,hw ▸ ah.refl w []⟩⟩
  . cases hv
theorem aow (T:TypeId) (k:IntKind) (a b:Int):zT Tryz.prog (.bin .gtr T) [.int k a,.int k b] (.bool (decide (b < a))):=fun x y w => by simp [eqGuard,binOp,Op.intCmp]
theorem aox (T:TypeId) (k:IntKind) (a b:Int):zT Tryz.prog (.bin .geq T) [.int k a,.int k b] (.bool (decide (b<=a))):=fun x y w => by simp [eqGuard,binOp,Op.intCmp]
def afO (T:TypeId) (k:IntKind) (a b:Int) (r:Bool):Ob:=.test (.bin .geq T) [.int k a,.int k b] (.bool r)
theorem XC {T:TypeId} {k:IntKind} {a b:Int} {r:Bool} (h:decide (b<=a) = r):BR Tryz.prog (afO T k a b r):=by subst h; exact aox T k a b
theorem amH {a:Ob} (ha:BR Tryz.prog a):∀ ob∈[a],BR Tryz.prog ob:=fun ob h => by simp at h; subst h; exact ha
end Xi

namespace Xi
open Go Go.RowKit
inductive MA where
 | aqo (p:Addr)
 | bare (p:Addr)
 | w (x:Wd)
 | a (l:List Wd)
inductive MO where
 | w (x:Wd)
 | a (l:List Wd)
 | t (l:List MO)
 | v (x:Value)
def wv (x:Wd):Value:=.int .i32 x.v
def wvs (l:List Wd):List Value:=l.map wv
def MA.val:MA->Value
 | .aqo p => .agg #[.iface 21 (.pointer (some p))]
 | .bare p => .pointer (some p)
 | .w x => wv x
 | .a l => .agg (wvs l).toArray
mutual
def MO.val:MO->Value
 | .w x => wv x
 | .a l => .agg (wvs l).toArray
 | .t l => .tuple (MO.vals l).toArray
 | .v x => x
def MO.vals:List MO->List Value
 | [] => []
 | o :: l => o.val :: MO.vals l
end
structure asb where
 f:FuncId
 fn:List MA->Option MO
 ok:∀ us o,fn us = some o->∀ w:World,Calls Tryz.prog f (us.map MA.val).toArray w fun e w' => e = .returned o.val/\ah w w' []
inductive OW where
 | call (f:FuncId) (us:List MA) (v:Value)
 | test (p:Pr) (xs:List Wd) (b:Bool)
end Xi
end Go.Proofs.YtnkmmaijigihpaaGreatDoor
