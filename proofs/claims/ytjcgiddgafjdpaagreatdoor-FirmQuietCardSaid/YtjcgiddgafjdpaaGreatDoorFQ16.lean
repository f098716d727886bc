/- Texts of this claim, side by side: Tab, View, RunA, RunB, RunC, RunD, MillM, PureW. -/
import Derived.Test.YtjcgiddgafjdpaaGreatDoorXiV
import Derived.Test.YtjcgiddgafjdpaaGreatDoorFQ7
/- Tables of calls that answer values: what they answer, and that it is so. -/
namespace Go.Proofs.YtjcgiddgafjdpaaGreatDoor.Xi
open Go Go.RowKit
set_option linter.unusedVariables false
structure iM where
 f:FuncId
 fn:List Value→Option Value
 ok:∀ us v,fn us = some v→(∀ u∈us,good1 u)→kK v∧∀ w:World,Calls Tryz.prog f us.toArray w fun e w' => e = .returned v∧ah w w' []
def fQ:List iM→Tab
 | [],_,_ => none
 | e :: l,f,us => bif Nat.beq e.f f then e.fn us else fQ l f us
theorem RY:∀ l:List iM,XA Tryz.prog (fQ l)
 | [],f,us,v,h,hg => by cases h
 | e :: l,f,us,v,h,hg => by
  unfold fQ at h
  cases hb:Nat.beq e.f f with
  | true =>
   rw [hb] at h
   obtain rfl:=beq_iff.1 hb
   exact e.ok us v h hg
  | false =>
   rw [hb] at h
   exact RY l f us v h hg
inductive Sh where
 | one
 | agg (n:Nat)
 | two (a b:Sh)
 | three (a b c:Sh)
def jZ:Nat→Nat→List AV
 | 0,_ => []
 | n + 1,i => .opq i :: jZ n (Nat.succ i)
def Sh.mk:Sh→Nat→AV × Nat
 | .one,nv => (.opq nv,1)
 | .agg n,nv => (.agg (jZ n nv),n)
 | .two a b,nv => match Sh.mk a nv with | (x,i) => match Sh.mk b (nv + i) with | (y,j) => (.iW [x,y],i + j)
 | .three a b c,nv => match Sh.mk a nv with | (x,i) => match Sh.mk b (nv + i) with | (y,j) => match Sh.mk c (nv + i + j) with | (z,k) => (.iW [x,y,z],i + j + k)
def aky:List (FuncId × Sh)→FuncId→Option Sh
 | [],_ => none
 | (g,s) :: l,f => bif Nat.beq g f then some s else aky l f
def afM:List (FuncId × AV)→FuncId→Option AV
 | [],_ => none
 | (g,s) :: l,f => bif Nat.beq g f then some s else afM l f
def akz:List (Nat × Bool)→Nat→Option Bool
 | [],_ => none
 | (g,s) :: l,f => bif Nat.beq g f then some s else akz l f
noncomputable def mW (lits:List (FuncId × AV)) (shs:List (FuncId × Sh)) (br:List (Nat × Bool)):Cx where
 P:=Tryz.prog
 ev:=fun f _ nv => match afM lits f with
  | some a => some (a,0)
  | none => match aky shs f with
   | some s => some (s.mk nv)
   | none => none
 lp:=fun _ => false
 mt:=fun _ _ => none
 br:=akz br
theorem bM {lits:List (FuncId × AV)} {shs:List (FuncId × Sh)} {br:List (Nat × Bool)} (l:List iM) {fuel:Nat} {f:FuncId} {args:List AV} {ins:List Value} {out:Value} {obs:List Ob}
 (h:jm (mW lits shs br) (fQ l) fuel f args ins = some (out,obs)) (hg:eG ins) (ho:∀ ob∈obs,lX Tryz.prog ob) (w:World) :
 Calls Tryz.prog f (aA (dL ins) args).toArray w fun e w' => e = .returned out∧ah w w' [] :=
 XC (cx:=mW lits shs br) (by kernel_rfl) (fun t n g h => by cases h) (RY l) h hg ho w
theorem oH (x:Wd):dD (.int .i32 x.v):=by
 have:=x.ok
 unfold aB at this
 simp only [dD,Lit.wf,IntKind.min,IntKind.max,IntKind.signed,IntKind.bits]
 simp
 omega
theorem fG (x:Wd):kW x.v = x:=Wd.dJ (tH x.ok)
theorem Jp {n:Int} (h:dD (.int .i32 n)):aB n:=by
 simp only [dD,Lit.wf,IntKind.min,IntKind.max,IntKind.signed,IntKind.bits] at h
 simp at h
 unfold aB
 omega
theorem qP {n:Int} (h:dD (.int .i32 n)):(kW n).v = n:=tH (Jp h)
theorem eY {k:IntKind} {n:Int} (h:good1 (.int k n)):dD (.int k n):=by
 rcases h with h | ⟨ds,h,_⟩
 · exact h
 · cases h
theorem rU {n:Int} (h:dD (.int .i64 n)):-9223372036854775808≤n∧n≤9223372036854775807:=by
 simp only [dD,Lit.wf,IntKind.min,IntKind.max,IntKind.signed,IntKind.bits] at h
 simp at h
 omega
theorem La {n:Int} (h:-9223372036854775808≤n∧n≤9223372036854775807):dD (.int .i64 n):=by
 simp only [dD,Lit.wf,IntKind.min,IntKind.max,IntKind.signed,IntKind.bits]
 simp
 omega
def f1 (R:Wd→Value):List Value→Option Value
 | [.int .i32 a] => some (R (kW a))
 | _ => none
def f2 (R:Wd→Wd→Value):List Value→Option Value
 | [.int .i32 a,.int .i32 b] => some (R (kW a) (kW b))
 | _ => none
def f3 (R:Wd→Wd→Wd→Value):List Value→Option Value
 | [.int .i32 a,.int .i32 b,.int .i32 c] => some (R (kW a) (kW b) (kW c))
 | _ => none
def g1 (R:Int→Value):List Value→Option Value
 | [.int .i64 a] => some (R a)
 | _ => none
def Lc (f:FuncId) (R:Wd→Value) (hR:∀ a,kK (R a)) (h:∀ (a:Wd) (w:World),Calls Tryz.prog f #[.int .i32 a.v] w fun e w' => e = .returned (R a)∧ah w w' []):iM where
 f:=f
 fn:=f1 R
 ok:=fun us v hv hg => by
  unfold f1 at hv
  split at hv
  · rename_i a
    injection hv with hv
    subst hv
    have ha:=qP (eY (hg (.int .i32 a) (by simp)))
    refine ⟨hR _,fun w => ?_⟩
    have:=h (kW a) w
    rw [ha] at this
    exact this
  · cases hv
def Ld (f:FuncId) (R:Wd→Wd→Value) (hR:∀ a b,kK (R a b)) (h:∀ (a b:Wd) (w:World),Calls Tryz.prog f #[.int .i32 a.v,.int .i32 b.v] w fun e w' => e = .returned (R a b)∧ah w w' []):iM where
 f:=f
 fn:=f2 R
 ok:=fun us v hv hg => by
  unfold f2 at hv
  split at hv
  · rename_i a b
    injection hv with hv
    subst hv
    have ha:=qP (eY (hg (.int .i32 a) (by simp)))
    have hb:=qP (eY (hg (.int .i32 b) (by simp)))
    refine ⟨hR _ _,fun w => ?_⟩
    have:=h (kW a) (kW b) w
    rw [ha,hb] at this
    exact this
  · cases hv
def apC (f:FuncId) (R:Wd→Wd→Wd→Value) (hR:∀ a b c,kK (R a b c)) (h:∀ (a b c:Wd) (w:World),Calls Tryz.prog f #[.int .i32 a.v,.int .i32 b.v,.int .i32 c.v] w fun e w' => e = .returned (R a b c)∧ah w w' []):iM where
 f:=f
 fn:=f3 R
 ok:=fun us v hv hg => by
  unfold f3 at hv
  split at hv
  · rename_i a b c
    injection hv with hv
    subst hv
    have ha:=qP (eY (hg (.int .i32 a) (by simp)))
    have hb:=qP (eY (hg (.int .i32 b) (by simp)))
    have hc:=qP (eY (hg (.int .i32 c) (by simp)))
    refine ⟨hR _ _ _,fun w => ?_⟩
    have:=h (kW a) (kW b) (kW c) w
    rw [ha,hb,hc] at this
    exact this
  · cases hv
theorem jG (x:Wd):kK (.int .i32 x.v):=.inl (.inl (oH x))
theorem Hz {n:Int} (h:-9223372036854775808≤n∧n≤9223372036854775807):kK (.int .i64 n):=.inl (.inl (La h))
def afN (f:FuncId) (R:Int→Value) (h:∀ a:Int,-9223372036854775808≤a∧a≤9223372036854775807→kK (R a)∧∀ w:World,Calls Tryz.prog f #[.int .i64 a] w fun e w' => e = .returned (R a)∧ah w w' []):iM where
 f:=f
 fn:=g1 R
 ok:=fun us v hv hg => by
  unfold g1 at hv
  split at hv
  · rename_i a
    injection hv with hv
    subst hv
    exact h a (rU (eY (hg (.int .i64 a) (by simp))))
  · cases hv
end Go.Proofs.YtjcgiddgafjdpaaGreatDoor.Xi

/- Xi: runs that are given slices, and may answer slices. -/
namespace Go.Proofs.YtjcgiddgafjdpaaGreatDoor.Xi
open Go Go.RowKit
set_option linter.unusedVariables false
set_option linter.unusedSimpArgs false
theorem dQ.nil {fp:List Nat} {w:World}:∀ {l:List Value} {cs:List CA},dQ fp w l cs→dQ [] w l cs
 | [],[],_ => trivial
 | a :: l,.v x :: cs,h => ⟨h.1,dQ.nil h.2⟩
 | a :: l,.l xs :: cs,h => ⟨⟨h.1.1,fun _ _ _ _ hm => by cases hm⟩,dQ.nil h.2⟩
 | [],_ :: _,h => h.elim
 | _ :: _,[],h => h.elim
def OE (P:Program) (w0:World) (fps:List Nat) (K:World→Prop) (hK:∀ w:World,(∀ k∈fps,k < w.heap.size∧w.heap[k]? = w0.heap[k]?)→K w):dV P where
 σ:=Unit
 I:=fun _ w => ∀ k∈fps,k < w.heap.size∧w.heap[k]? = w0.heap[k]?
 fp:=fun _ _ => fps
 lt:=fun _ w h d hd => (h d hd).1
 keep:=fun _ w w' D h hf hD => ⟨fun k hk => ⟨Nat.lt_of_lt_of_le (h k hk).1 hf.size,(hf.block k (h k hk).1 (fun hd => hD k hd hk)).trans (h k hk).2⟩,rfl⟩
 step:=fun _ f cas v _ => ∀ (w:World) (args:List Value),K w→dQ [] w args cas→Calls P f args.toArray w fun e w' => e = .returned v∧ah w w' []
 Dj:=fun _ _ _ _ _ _ => False
 fin:=fun _ _ _ _ => False
 step_ok:=fun s w f args cas v s' hI ha hs => (hs w args (hK w hI) ha.nil).mono fun e w' ⟨he,hc⟩ =>
  ⟨he,fun k hk => ⟨Nat.lt_of_lt_of_le (hI k hk).1 hc.size,(hc.block k (hI k hk).1 (by simp)).trans (hI k hk).2⟩,((Fr.zT hc).more (fun _ _ h => (by cases h))),fun d hd => .inl hd⟩
 EG:=fun _ _ _ _ _ _ _ _ _ _ _ _ _ hb => hb.elim
def D7 (vws:List (List AV)) (i:Nat):Option (List AV):=bif Nat.ble 1000000 i then nth vws (i - 1000000) else none
noncomputable def cxV (lits:List (FuncId × AV)) (shs:List (FuncId × Sh)) (br:List (Nat × Bool)) (vws:List (List AV)):Cx:={ mW lits shs br with vw:=D7 vws }
def yU (g:G):AV→Option (Bool × List EA)
 | .iW vs => match eargs g vs with | some l => some (true,l) | none => none
 | v => match GR g v with | some x => some (false,[x]) | none => none
def RZ:Bool→List Value→Value
 | true,vs => .tuple vs.toArray
 | false,[v] => v
 | false,_ => undef
def EA.kn (n:Nat):EA→Bool
 | .v (.lit _) => true
 | .v a => a.known n
 | .l cs => jM n cs
def eaL (n:Nat):List EA→Bool
 | [] => true
 | x :: l => x.kn n && eaL n l
mutual
def inV (n:Nat):AV→Bool
 | .lit _ => true
 | .opq i => Nat.blt i n
 | .vw i _ _ => Nat.ble 1000000 i
 | .agg cs => vG n cs
 | .iW vs => vG n vs
 | .fn _ a c => vG n a && vG n c
 | .qY _ v => inV n v
 | _ => false
def vG (n:Nat):List AV→Bool
 | [] => true
 | v :: l => inV n v && vG n l
end
def okV (n:Nat):List (List AV)→Bool
 | [] => true
 | cs :: l => gI 0 cs && jM n cs && Nat.ble 1 (aG cs) && okV n l
def YN (cx:Cx) (tab:Tab) (fuel:Nat) (f:FuncId) (vws:List (List AV)) (args:List AV) (ins:List Value):Option (Bool × List CA × List Ob) :=
 match g_ cx fuel f args ⟨.nil,0,aG ins⟩ with
 | some (v,g,δ) => bif gI 0 args && vG (aG ins) args && okV (aG ins) vws then (match rJ cx tab δ ins [] with
  | some (ρ,obs) => bif Nat.ble (aG ρ) 1000000 then (match yU g v with
   | some (t,xs) => bif eaL (aG ρ) xs then some (t,xs.map (EA.au (dL ρ)),obs) else none
   | none => none) else none
  | none => none) else none
 | none => none
def ρS (ρ:List Value) (ss:List Value) (i:Nat):Value:=if i < ρ.length then ρ.getD i (.int .i64 0) else ss.getD (i - 1000000) (.int .i64 0)
theorem abB (ρ ss:List Value):Ext ρ (ρS ρ ss):=fun i v h => by
 have hi:i < ρ.length:=(List.getElem?_eq_some_iff.1 h).1
 unfold ρS
 rw [if_pos hi,List.getD,h]; rfl
mutual
theorem R_ {ins τ ss:List Value} (hl:(ins ++ τ).length≤1000000):∀ (a:AV),inV (aG ins) a = true→a.au (E0 (ρS (ins ++ τ) ss)) = a.au (E0 (ρS ins ss))
 | .lit v,_ => rfl
 | .opq i,h => by
  have hi:i < ins.length:=by have:Nat.blt i (aG ins) = true:=h; rwa [aH] at this
  show ρS (ins ++ τ) ss i = ρS ins ss i
  unfold ρS
  rw [if_pos hi,if_pos (by simp; omega),List.getD,List.getD,List.getElem?_append_left hi]
 | .vw i o n,h => by
  have hi:1000000≤i:=aY.1 h
  show Iy (ρS (ins ++ τ) ss i) o n = Iy (ρS ins ss i) o n
  unfold ρS
  have:ins.length≤(ins ++ τ).length:=by simp
  rw [if_neg (by omega),if_neg (by omega)]
 | .agg cs,h => by simp only [AV.au]; rw [oI hl cs h]
 | .iW vs,h => by simp only [AV.au]; rw [oI hl vs h]
 | .fn f a c,h => by
  have h':(vG (aG ins) a && vG (aG ins) c) = true:=h
  rw [Bool.and_eq_true] at h'
  simp only [AV.au]; rw [oI hl a h'.1,oI hl c h'.2]
 | .ptr _ _,h => by cases h
 | .slc _ _ _ _,h => by cases h
 | .row _ _,h => by cases h
 | .qY t v,h => by
  have h':inV (aG ins) v = true:=h
  simp only [AV.au]; rw [R_ hl v h']
 | .vp _ _,h => by cases h
theorem oI {ins τ ss:List Value} (hl:(ins ++ τ).length≤1000000):∀ (l:List AV),vG (aG ins) l = true→aA (E0 (ρS (ins ++ τ) ss)) l = aA (E0 (ρS ins ss)) l
 | [],_ => rfl
 | v :: l,h => by
  simp only [vG,Bool.and_eq_true] at h
  simp only [aA]
  rw [R_ hl v h.1,oI hl l h.2]
end
theorem Si {n:Nat}:∀ {l:List (List AV)} {i:Nat} {cs:List AV},okV n l = true→l[i]? = some cs→gI 0 cs = true∧jM n cs = true∧1≤cs.length
 | [],i,cs,h,hi => by cases hi
 | x :: l,0,cs,h,hi => by
  injection hi with hi
  subst hi
  simp only [okV,Bool.and_eq_true,aY,aG] at h
  exact ⟨h.1.1.1,h.1.1.2,h.1.2⟩
 | x :: l,i + 1,cs,h,hi => by
  simp only [okV,Bool.and_eq_true] at h
  exact Si (l:=l) (i:=i) h.2 (by simpa using hi)
theorem Sj {ρ:List Value} {ρF:Nat→Value} (hF:Ext ρ ρF):∀ {xs:List EA},eaL (aG ρ) xs = true→xs.map (EA.au (E0 ρF)) = xs.map (EA.au (dL ρ))
 | [],_ => rfl
 | x :: l,h => by
  simp only [eaL,Bool.and_eq_true] at h
  simp only [List.map_cons]
  rw [Sj hF h.2]
  congr 1
  cases x with
  | l cs => simp only [EA.au]; rw [iT hF cs h.1]
  | v a =>
   cases a with
   | lit v => rfl
   | _ => simp only [EA.au]; rw [wE hF _ h.1]
def dK:Value→Option Nat
 | .slice (some ⟨b,_,none⟩) _ _ => some b
 | _ => none
theorem Jq {cx:Cx} {tab:Tab} {fuel:Nat} {f:FuncId} {vws:List (List AV)} {args:List AV} {ins:List Value} {t:Bool} {cas:List CA} {obs:List Ob} (dW:cx.P.follows .mixedOrders = true) (hmt:vg cx) {K:World→Prop} (hT:Qo cx.P K tab) (hvw:cx.vw = D7 vws)
 (h:YN cx tab fuel f vws args ins = some (t,cas,obs)) (hg:eG ins) (ho:∀ ob∈obs,qg cx.P K ob) (w:World) (gs:List Nat) (hgs:∀ k∈gs,k < w.heap.size) (hK:∀ w1:World,(∀ k∈gs,w1.heap[k]? = w.heap[k]?)→K w1) (ss:List Value)
 (hss:∀ (i:Nat) cs,vws[i]? = some cs→∃ v,ss[i]? = some v∧Sl w v (aA (dL ins) cs)) (h1:∀ v∈ss,v.oneCell' = true) {vals:List Value} (hvs:aA (E0 (ρS ins ss)) args = vals) :
 Calls cx.P f vals.toArray w fun e w' => (∃ us,dQ [] w' us cas∧e = .returned (RZ t us))∧ah w w' []:=by
 unfold YN at h
 cases hc:g_ cx fuel f args ⟨.nil,0,aG ins⟩ with
 | none => rw [hc] at h; cases h
 | some q =>
  obtain ⟨v,g',δ⟩:=q
  rw [hc] at h
  simp only [] at h
  cases hk:(gI 0 args && vG (aG ins) args && okV (aG ins) vws) with
  | false => rw [hk] at h; cases h
  | true =>
   rw [hk] at h
   simp only [cond_true] at h
   simp only [Bool.and_eq_true] at hk
   obtain ⟨⟨k1,k2⟩,k3⟩:=hk
   cases hr:rJ cx tab δ ins [] with
   | none => rw [hr] at h; cases h
   | some q2 =>
    obtain ⟨ρ,obs'⟩:=q2
    rw [hr] at h
    simp only [] at h
    cases hlen:Nat.ble (aG ρ) 1000000 with
    | false => rw [hlen] at h; cases h
    | true =>
     rw [hlen] at h
     rw [aY] at hlen
     unfold aG at hlen
     simp only [cond_true] at h
     cases he:yU g' v with
     | none => rw [he] at h; cases h
     | some q3 =>
      obtain ⟨t',xs⟩:=q3
      rw [he] at h
      simp only [] at h
      cases hx:eaL (aG ρ) xs with
      | false => rw [hx] at h; cases h
      | true =>
       rw [hx] at h
       injection h with h; injection h with e1 h; injection h with e2 e3
       subst e1 e2 e3
       have hKv:∀ w1:World,(∀ k∈gs ++ ((ss.filterMap dK).filter fun b => decide (b < w.heap.size)),k < w1.heap.size∧w1.heap[k]? = w.heap[k]?)→K w1:=fun w1 h => hK w1 fun k hk => (h k (List.mem_append.2 (.inl hk))).2
       obtain ⟨⟨τ,hτ⟩,hgρ,_,hrun⟩:=sV (M:=OE cx.P w (gs ++ ((ss.filterMap dK).filter fun b => decide (b < w.heap.size))) K hKv) (fun s f cas v hs => hs) hT hr hg ho
       have hF:Ext ρ (ρS ρ ss):=abB ρ ss
       have hone:∀ i,(ρS ρ ss i).oneCell' = true:=fun i => by
        unfold ρS
        split
        · rename_i hi
          simp only [List.getD,List.getElem?_eq_getElem hi,Option.getD_some]
          exact MB (hgρ _ (List.getElem_mem hi))
        · cases hj:ss[i - 1000000]? with
          | none => rw [List.getD,hj]; rfl
          | some u => rw [List.getD,hj]; exact h1 u (List.mem_of_getElem? hj)
       have hvk:∀ i cs,cx.vw i = some cs→∃ b a n c,ρS ρ ss i = .slice (some ⟨b,a,none⟩) n c∧cs.length≤c∧gI 0 cs = true∧b∈ss.filterMap dK∧b < w.heap.size∧∀ k v,cs[k]? = some v→∀ E:Env,E.ρ = ρS ρ ss→w.cell? ⟨b,a + k,none⟩ = some (v.au E):=fun i cs hi => by
        rw [hvw] at hi
        unfold D7 at hi
        cases hb:Nat.ble 1000000 i with
        | false => rw [hb] at hi; cases hi
        | true =>
         rw [hb] at hi
         rw [aY] at hb
         simp only [cond_true] at hi
         rw [nZ] at hi
         obtain ⟨z1,z2,z3⟩:=Si k3 hi
         obtain ⟨u,hu,hsl⟩:=hss _ _ hi
         obtain ⟨A,c,rfl,hcap,hcell⟩:=hsl
         rw [aQ] at hcap hcell
         obtain ⟨b,a,rfl,hcell2⟩:=hcell (by omega)
         refine ⟨b,a,cs.length,c,?_,hcap,z1,?_,?_,?_⟩
         · unfold ρS
           rw [if_neg (by omega),List.getD,hu,aQ]; rfl
         · exact List.mem_filterMap.2 ⟨_,List.mem_of_getElem? hu,rfl⟩
         · have:=hcell2 0 (by omega)
           unfold World.cell? at this
           cases hb':w.heap[b]? with
           | none =>
            simp only [hb'] at this
            rw [eq_comm,List.getElem?_eq_none_iff,aQ] at this
            omega
           | some o => exact lt_of_heap hb'
         · intro k y hy E hE
           have hk':k < cs.length:=(List.getElem?_eq_some_iff.1 hy).1
           rw [hcell2 k hk',dh,List.getElem?_map,hy]
           show some (y.au (dL ins)) = some (y.au E)
           have hFi:Ext ins (ρS ρ ss):=by
            have:=hF
            rw [hτ] at this ⊢
            exact this.of_append
           have e4:aA (E0 (ρS ρ ss)) cs = aA (dL ins) cs:=iT hFi cs z2
           rw [dh,dh] at e4
           have e5:=congrArg (fun l => l[k]?) e4
           simp only [List.getElem?_map,hy,Option.map_some] at e5
           rw [← e5]
           have z4:y.lt 0 = true:=by
            unfold AV.lt
            rw [aH,pow_eq]
            refine dI fun q hq => ?_
            have:=lC z1 (dZ (List.mem_of_getElem? hy) hq)
            omega
           rw [qJ (E:=E0 (ρS ρ ss)) (E':=E) z4 hE]
       have hI:(OE cx.P w (gs ++ ((ss.filterMap dK).filter fun b => decide (b < w.heap.size))) K hKv).I () w:=fun k hk => ⟨(List.mem_append.1 hk).elim (hgs k) (fun hk => by have:=(List.mem_filter.1 hk).2; simpa using this),rfl⟩
       obtain ⟨_,hcall⟩:=G9 (M:=OE cx.P w (gs ++ ((ss.filterMap dK).filter fun b => decide (b < w.heap.size))) K hKv) (ρv:=ρS ρ ss) dW hmt hone (fun i cs hi => by
        obtain ⟨b,a,n,c,y1,y2,y3,y4,y5,y6⟩:=hvk i cs hi
        refine ⟨b,a,n,c,y1,y2,y3,fun s w1 hw1 => ?_⟩
        have hm:b∈gs ++ ((ss.filterMap dK).filter fun b => decide (b < w.heap.size)):=List.mem_append.2 (.inr (List.mem_filter.2 ⟨y4,by simpa using y5⟩))
        refine ⟨hm,fun k u hu E hE => ?_⟩
        have:=y6 k u hu E hE
        unfold World.cell? at this ⊢
        rw [show w1.heap[b]? = w.heap[b]? from (hw1 b hm).2]
        exact this) fuel |>.2 f args ⟨.nil,0,aG ins⟩ v g' δ hc
       have hrep:Rep (OE cx.P w (gs ++ ((ss.filterMap dK).filter fun b => decide (b < w.heap.size))) K hKv) (E0 (ρS ρ ss)) () (⟨.nil,0,aG ins⟩:G).at 0 w:=⟨hI,(fun b B hb => by have:=eF hb; cases this),(fun b b' B B' hb => by have:=eF hb; cases this),(fun b B hb => by have:=eF hb; cases this),(fun b B hb => eF hb)⟩
       have hcl:=hcall (E0 (ρS ρ ss)) () () w rfl hrep (fun u hu => by
        unfold AV.lt
        rw [aH,pow_eq]
        refine dI fun q hq => ?_
        have:=lC k1 (dZ hu hq)
        omega) (hrun _ hF ())
       have Sm:aA (E0 (ρS ρ ss)) args = vals:=by
        rw [← hvs]
        subst hτ
        exact oI hlen args k2
       rw [Sm] at hcl
       refine hcl.mono ?_
       rintro e w' ⟨E',rfl,hw⟩
       refine ⟨?_,?_⟩
       · have eρ:E'.ρ = ρS ρ ss:=hw.rho
         have fin:∀ {l:List AV},eargs g' l = some xs→dQ [] w' (aA E' l) (xs.map (EA.au (dL ρ))):=fun {l} hl => by
          have:=(wC hw.rep hl).nil
          rw [eρ,Sj hF hx] at this
          exact this
         unfold yU at he
         split at he
         · rename_i vs _
           cases hvs':eargs g' vs with
           | none => rw [hvs'] at he; cases he
           | some l =>
            rw [hvs'] at he
            injection he with he; injection he with he1 he2
            subst he1 he2
            exact ⟨_,fin hvs',rfl⟩
         · cases hv':GR g' v with
           | none => rw [hv'] at he; cases he
           | some x =>
            rw [hv'] at he
            injection he with he; injection he with he1 he2
            subst he1 he2
            exact ⟨[v.au E'],fin (l:=[v]) (by simp only [eargs,hv']),rfl⟩
       · refine ⟨hw.fr.os,hw.fr.tape,hw.fr.output,hw.fr.size,fun k hk _ => ?_⟩
         by_cases hm:k∈gs ++ ((ss.filterMap dK).filter fun b => decide (b < w.heap.size))
         · exact (hw.rep.qo k hm).2
         · refine hw.fr.block k hk fun hd => ?_
           rcases hd with hd | ⟨b,B,hb,_⟩
           · exact hm hd
           · have:=eF hb; cases this
end Go.Proofs.YtjcgiddgafjdpaaGreatDoor.Xi

/- The reference's bits, by runs: Bits, Of. -/
namespace Go.Proofs.YtjcgiddgafjdpaaGreatDoor.Xi
open Go Go.RowKit
set_option linter.unusedVariables false
theorem Y5 (x:Wd):-9223372036854775808≤x.v % 4294967296∧x.v % 4294967296≤9223372036854775807:=by omega
noncomputable def alC:iM:=Lc 260 (fun a => .int .i64 (a.v % 4294967296)) (fun a => Hz (Y5 a)) (fun a w => (U5 a.v w a.ok).mono fun e w' ⟨he,hw⟩ => ⟨he,hw ▸ ah.refl w []⟩)
noncomputable def alD:iM:=afN 70 (fun x => .int .i32 (kW x).v) (fun x hx => ⟨jG _,fun w => (ab1 x w hx).mono fun e w' ⟨he,hw⟩ => ⟨he,hw ▸ ah.refl w []⟩⟩)
def OU:Nat→Int→List Value
 | 0,_ => []
 | n + 1,y => .int .i64 (IntKind.i64.wrap (y.tmod 2)) :: OU n (IntKind.i64.wrap (y.tdiv 2))
set_option maxRecDepth 100000 in
theorem aeO (a:Wd):jm (mW [] [(260,.one)] []) (fQ [alC]) 200 189 [.opq 0] [.int .i32 a.v] = some (.agg (OU 32 ((kW a.v).v % 4294967296)).toArray,[]):=by kernel_rfl
def qF (y:Int):Nat→Nat→List Int
 | _,0 => []
 | i,n + 1 => y / 2 ^ i % 2 :: qF y (i + 1) n
theorem TD:∀ (n i:Nat) (y:Int),0≤y→y < 9223372036854775808→OU n (y / 2 ^ i) = (qF y i n).map (.int .i64)
 | 0,_,_,_,_ => rfl
 | n + 1,i,y,h0,h1 => by
  have hp:(0:Int) < 2 ^ i:=Int.pow_pos (by omega)
  have k0:0≤y / 2 ^ i:=Int.ediv_nonneg h0 (by omega)
  have k1:y / 2 ^ i≤y:=Int.ediv_le_self _ h0
  have e1:IntKind.i64.wrap ((y / 2 ^ i).tmod 2) = y / 2 ^ i % 2:=by
   rw [Int.tmod_eq_emod_of_nonneg k0,IntKind.wrap_i64]; omega
  have e2:IntKind.i64.wrap ((y / 2 ^ i).tdiv 2) = y / 2 ^ (i + 1):=by
   rw [Int.tdiv_eq_ediv_of_nonneg k0,Int.ediv_ediv_of_nonneg (by omega),Int.pow_succ,IntKind.wrap_i64]
   have k2:0≤y / (2 ^ i * 2):=Int.ediv_nonneg h0 (by omega)
   have k3:y / (2 ^ i * 2)≤y:=Int.ediv_le_self _ h0
   omega
  simp only [OU,qF,List.map_cons]
  rw [e1,e2,TD n (i + 1) y h0 h1]
def Y6 (a:Wd):Value:=.agg ((qF (a.v % 4294967296) 0 32).map (.int .i64)).toArray
theorem Y7 (a:Wd) (w:World):Calls Tryz.prog 189 #[.int .i32 a.v] w fun e w' => e = .returned (Y6 a)∧ah w w' []:=by
 have h:=bM _ (aeO a) (fun v hv => by simp at hv; subst hv; exact oH a) (fun ob hob => by cases hob) w
 rw [fG] at h
 have e:=TD 32 0 (a.v % 4294967296) (by omega) (by omega)
 rw [show a.v % 4294967296 / 2 ^ 0 = a.v % 4294967296 by simp] at e
 rw [e] at h
 exact h
theorem Ls (y:Int):∀ (n i:Nat),∀ x∈qF y i n,x = 0∨x = 1
 | 0,_,x,h => by cases h
 | n + 1,i,x,h => by
  rcases List.mem_cons.1 h with rfl | h
  · omega
  · exact Ls y n (i + 1) x h
theorem zI (y:Int):∀ (n i:Nat),(qF y i n).length = n
 | 0,_ => rfl
 | n + 1,i => by simp [qF,zI y n (i + 1)]
theorem Y8 (a:Wd):kK (Y6 a):=.inl (.inr ⟨_,rfl,fun u hu => by
 simp only [List.mem_map] at hu
 obtain ⟨x,hx,rfl⟩:=hu
 rcases Ls _ _ _ x hx with rfl | rfl <;> exact La (by omega)⟩)
noncomputable def afZ:iM:=Lc 189 Y6 Y8 Y7
def JK:List Int→Int→Int
 | [],n => n
 | b :: l,n => JK l (IntKind.i64.wrap (IntKind.i64.wrap (2 * n) + b))
set_option maxRecDepth 100000 in
theorem of_run (b0 b1 b2 b3 b4 b5 b6 b7 b8 b9 b10 b11 b12 b13 b14 b15 b16 b17 b18 b19 b20 b21 b22 b23 b24 b25 b26 b27 b28 b29 b30 b31:Int):jm (mW [] [(70,.one)] []) (fQ [alD]) 200 191 [.agg (jZ 32 0)] [.int .i64 b0,.int .i64 b1,.int .i64 b2,.int .i64 b3,.int .i64 b4,.int .i64 b5,.int .i64 b6,.int .i64 b7,.int .i64 b8,.int .i64 b9,.int .i64 b10,.int .i64 b11,.int .i64 b12,.int .i64 b13,.int .i64 b14,.int .i64 b15,.int .i64 b16,.int .i64 b17,.int .i64 b18,.int .i64 b19,.int .i64 b20,.int .i64 b21,.int .i64 b22,.int .i64 b23,.int .i64 b24,.int .i64 b25,.int .i64 b26,.int .i64 b27,.int .i64 b28,.int .i64 b29,.int .i64 b30,.int .i64 b31] = some (.int .i32 (kW (JK [b31,b30,b29,b28,b27,b26,b25,b24,b23,b22,b21,b20,b19,b18,b17,b16,b15,b14,b13,b12,b11,b10,b9,b8,b7,b6,b5,b4,b3,b2,b1,b0] 0)).v,[]):=by kernel_rfl
def Fv:List Value→Option (List Int)
 | [] => some []
 | .int .i64 b :: l => match Fv l with | some r => some (b :: r) | none => none
 | _ :: _ => none
theorem TF:∀ {l:List Value} {r:List Int},Fv l = some r→l = r.map (.int .i64)
 | [],r,h => by injection h with h; subst h; rfl
 | .int .i64 b :: l,r,h => by
  unfold Fv at h
  cases hl:Fv l with
  | none => rw [hl] at h; cases h
  | some q =>
   rw [hl] at h
   injection h with h
   subst h
   rw [TF hl]; rfl
 | .int .i8 _ :: _,_,h => by cases h
 | .int .i16 _ :: _,_,h => by cases h
 | .int .i32 _ :: _,_,h => by cases h
 | .int .u8 _ :: _,_,h => by cases h
 | .int .u16 _ :: _,_,h => by cases h
 | .int .u32 _ :: _,_,h => by cases h
 | .int .u64 _ :: _,_,h => by cases h
 | .bool _ :: _,_,h => by cases h
 | .float _ _ :: _,_,h => by cases h
 | .complex _ _ _ :: _,_,h => by cases h
 | .string _ :: _,_,h => by cases h
 | .pointer _ :: _,_,h => by cases h
 | .slice _ _ _ :: _,_,h => by cases h
 | .map _ :: _,_,h => by cases h
 | .chan _ :: _,_,h => by cases h
 | .func _ _ _ :: _,_,h => by cases h
 | .nilFunc :: _,_,h => by cases h
 | .iface _ _ :: _,_,h => by cases h
 | .nilIface :: _,_,h => by cases h
 | .tuple _ :: _,_,h => by cases h
 | .agg _ :: _,_,h => by cases h
def Nv (l:List Int):Value:=.int .i32 (kW (JK l.reverse 0)).v
def fOf:List Value→Option Value
 | [.agg ds] => match Fv ds.toList with
  | some l => bif Nat.beq l.length 32 then some (Nv l) else none
  | none => none
 | _ => none
set_option maxRecDepth 100000 in
theorem Hl (l:List Int) (hl:l.length = 32) (hg:∀ b∈l,dD (.int .i64 b)) (w:World):Calls Tryz.prog 191 #[.agg (l.map (.int .i64)).toArray] w fun e w' => e = .returned (Nv l)∧ah w w' []:=by
 match l,hl with
 | [b0,b1,b2,b3,b4,b5,b6,b7,b8,b9,b10,b11,b12,b13,b14,b15,b16,b17,b18,b19,b20,b21,b22,b23,b24,b25,b26,b27,b28,b29,b30,b31],_ =>
  have h:=bM _ (of_run b0 b1 b2 b3 b4 b5 b6 b7 b8 b9 b10 b11 b12 b13 b14 b15 b16 b17 b18 b19 b20 b21 b22 b23 b24 b25 b26 b27 b28 b29 b30 b31) (fun v hv => by
   have hv':v∈([b0,b1,b2,b3,b4,b5,b6,b7,b8,b9,b10,b11,b12,b13,b14,b15,b16,b17,b18,b19,b20,b21,b22,b23,b24,b25,b26,b27,b28,b29,b30,b31]:List Int).map (Value.int .i64):=hv
   obtain ⟨b,hb,rfl⟩:=List.mem_map.1 hv'
   exact hg b hb) (fun ob hob => by cases hob) w
  have e:(aA (dL [.int .i64 b0,.int .i64 b1,.int .i64 b2,.int .i64 b3,.int .i64 b4,.int .i64 b5,.int .i64 b6,.int .i64 b7,.int .i64 b8,.int .i64 b9,.int .i64 b10,.int .i64 b11,.int .i64 b12,.int .i64 b13,.int .i64 b14,.int .i64 b15,.int .i64 b16,.int .i64 b17,.int .i64 b18,.int .i64 b19,.int .i64 b20,.int .i64 b21,.int .i64 b22,.int .i64 b23,.int .i64 b24,.int .i64 b25,.int .i64 b26,.int .i64 b27,.int .i64 b28,.int .i64 b29,.int .i64 b30,.int .i64 b31]) [.agg (jZ 32 0)]).toArray = #[.agg (([b0,b1,b2,b3,b4,b5,b6,b7,b8,b9,b10,b11,b12,b13,b14,b15,b16,b17,b18,b19,b20,b21,b22,b23,b24,b25,b26,b27,b28,b29,b30,b31]:List Int).map (Value.int .i64)).toArray]:=by kernel_rfl
  rw [e] at h
  exact h
noncomputable def ofE:iM where
 f:=191
 fn:=fOf
 ok:=fun us v hv hg => by
  unfold fOf at hv
  split at hv
  · rename_i ds
    cases hi:Fv ds.toList with
    | none => rw [hi] at hv; cases hv
    | some l =>
     rw [hi] at hv
     simp only [] at hv
     cases hb:Nat.beq l.length 32 with
     | false => rw [hb] at hv; cases hv
     | true =>
      rw [hb] at hv
      injection hv with hv
      subst hv
      have hd:=TF hi
      refine ⟨jG _,fun w => ?_⟩
      have h:=Hl l (beq_iff.1 hb) (fun b hb => by
       rcases hg (.agg ds) (by simp) with h | ⟨ds',h,hd'⟩
       · cases h
       · injection h with h; subst h
         exact hd' _ (by rw [hd]; exact List.mem_map.2 ⟨b,hb,rfl⟩)) w
      rw [← hd] at h
      exact h
  · cases hv
set_option maxHeartbeats 400000 in
theorem aeP (n:Wd) (w:World):Calls Tryz.prog 190 #[.int .i32 n.v] w fun e w' => e = .returned (.int .i64 (n.v % 32))∧ah w w' []:=by
 have ok:=n.ok
 unfold aB at ok
 go_enter Tryz.func190,Tryz.ntmps190
 go_wp2_with fail
 refine (uT n.v 32 _ (by omega) (by omega)).mono ?_
 rintro e w' ⟨rfl,rfl⟩
 go_wp2
 go_ret
 exact ⟨rfl,ah.refl w []⟩
def TG (n:Wd) (k:Int):Ob:=.call 190 [.int .i32 n.v] (.int .i64 k)
theorem ah1 {n:Wd} {k:Int} (h:n.v % 32 = k):lX Tryz.prog (TG n k):=fun w => by
 have:=aeP n w
 rw [h] at this
 exact this
def byS (k:Int):List (FuncId × AV):=[(190,.lit (.int .i64 k))]
def alF:List (FuncId × Sh):=[(189,.agg 32),(191,.one)]
noncomputable def alG:List iM:=[afZ,ofE]
set_option maxRecDepth 100000 in
theorem ah2 (a n:Wd):∀ k:Nat,k < 32→jm (mW (byS (Int.ofNat k)) alF []) (fQ alG) 400 115 [.opq 0,.opq 1] [.int .i32 a.v,.int .i32 n.v] = some (Nv (List.replicate k 0 ++ qF ((kW a.v).v % 4294967296) 0 (32 - k)),List.replicate (33 - k) (TG n (Int.ofNat k)))
 | 0,_ => by kernel_rfl
 | 1,_ => by kernel_rfl
 | 2,_ => by kernel_rfl
 | 3,_ => by kernel_rfl
 | 4,_ => by kernel_rfl
 | 5,_ => by kernel_rfl
 | 6,_ => by kernel_rfl
 | 7,_ => by kernel_rfl
 | 8,_ => by kernel_rfl
 | 9,_ => by kernel_rfl
 | 10,_ => by kernel_rfl
 | 11,_ => by kernel_rfl
 | 12,_ => by kernel_rfl
 | 13,_ => by kernel_rfl
 | 14,_ => by kernel_rfl
 | 15,_ => by kernel_rfl
 | 16,_ => by kernel_rfl
 | 17,_ => by kernel_rfl
 | 18,_ => by kernel_rfl
 | 19,_ => by kernel_rfl
 | 20,_ => by kernel_rfl
 | 21,_ => by kernel_rfl
 | 22,_ => by kernel_rfl
 | 23,_ => by kernel_rfl
 | 24,_ => by kernel_rfl
 | 25,_ => by kernel_rfl
 | 26,_ => by kernel_rfl
 | 27,_ => by kernel_rfl
 | 28,_ => by kernel_rfl
 | 29,_ => by kernel_rfl
 | 30,_ => by kernel_rfl
 | 31,_ => by kernel_rfl
 | k + 32,h => absurd h (by omega)
set_option maxRecDepth 100000 in
theorem ah3 (a n:Wd):∀ k:Nat,k < 32→jm (mW (byS (Int.ofNat k)) alF []) (fQ alG) 400 268 [.opq 0,.opq 1] [.int .i32 a.v,.int .i32 n.v] = some (Nv (qF ((kW a.v).v % 4294967296) k (32 - k) ++ List.replicate k 0),List.replicate (65 - 2 * k) (TG n (Int.ofNat k)))
 | 0,_ => by kernel_rfl
 | 1,_ => by kernel_rfl
 | 2,_ => by kernel_rfl
 | 3,_ => by kernel_rfl
 | 4,_ => by kernel_rfl
 | 5,_ => by kernel_rfl
 | 6,_ => by kernel_rfl
 | 7,_ => by kernel_rfl
 | 8,_ => by kernel_rfl
 | 9,_ => by kernel_rfl
 | 10,_ => by kernel_rfl
 | 11,_ => by kernel_rfl
 | 12,_ => by kernel_rfl
 | 13,_ => by kernel_rfl
 | 14,_ => by kernel_rfl
 | 15,_ => by kernel_rfl
 | 16,_ => by kernel_rfl
 | 17,_ => by kernel_rfl
 | 18,_ => by kernel_rfl
 | 19,_ => by kernel_rfl
 | 20,_ => by kernel_rfl
 | 21,_ => by kernel_rfl
 | 22,_ => by kernel_rfl
 | 23,_ => by kernel_rfl
 | 24,_ => by kernel_rfl
 | 25,_ => by kernel_rfl
 | 26,_ => by kernel_rfl
 | 27,_ => by kernel_rfl
 | 28,_ => by kernel_rfl
 | 29,_ => by kernel_rfl
 | 30,_ => by kernel_rfl
 | 31,_ => by kernel_rfl
 | k + 32,h => absurd h (by omega)
def g2p (R:Int→Int→Value):List Value→Option Value
 | [.int .i64 a,.int .i64 b] => bif decide (0 < b) then some (R a b) else none
 | _ => none
noncomputable def TJ:iM where
 f:=131
 fn:=g2p fun x n => .int .i64 (x % n)
 ok:=fun us v hv hg => by
  unfold g2p at hv
  split at hv
  · rename_i a b
    cases hb:decide (0 < b) with
    | false => rw [hb] at hv; cases hv
    | true =>
     rw [hb] at hv
     injection hv with hv
     subst hv
     have h0:=of_decide_eq_true hb
     have ha:=rU (eY (hg (.int .i64 a) (by simp)))
     have h1:=rU (eY (hg (.int .i64 b) (by simp)))
     have k0:=Int.emod_nonneg a (by omega:b≠0)
     have k1:=Int.emod_lt_of_pos a h0
     refine ⟨Hz (by omega),fun w => (uT a b w ha ⟨h0,h1.2⟩).mono fun e w' ⟨he,hw⟩ => ⟨he,hw ▸ ah.refl w []⟩⟩
  · cases hv
def alI (x m:Int):Value:=.int .i32 (IntKind.i32.wrap (IntKind.i64.wrap ((IntKind.i64.wrap (IntKind.i64.wrap x - IntKind.i64.wrap x % m)).tdiv m)))
set_option maxRecDepth 100000 in
theorem ah4 (a n:Wd):∀ k:Nat,k < 32→jm (mW (byS (Int.ofNat k)) [(131,.one)] []) (fQ [TJ]) 400 124 [.opq 0,.opq 1] [.int .i32 a.v,.int .i32 n.v] = some (alI a.v (Int.ofNat (2 ^ k)),List.replicate (k + 1) (TG n (Int.ofNat k)))
 | 0,_ => by kernel_rfl
 | 1,_ => by kernel_rfl
 | 2,_ => by kernel_rfl
 | 3,_ => by kernel_rfl
 | 4,_ => by kernel_rfl
 | 5,_ => by kernel_rfl
 | 6,_ => by kernel_rfl
 | 7,_ => by kernel_rfl
 | 8,_ => by kernel_rfl
 | 9,_ => by kernel_rfl
 | 10,_ => by kernel_rfl
 | 11,_ => by kernel_rfl
 | 12,_ => by kernel_rfl
 | 13,_ => by kernel_rfl
 | 14,_ => by kernel_rfl
 | 15,_ => by kernel_rfl
 | 16,_ => by kernel_rfl
 | 17,_ => by kernel_rfl
 | 18,_ => by kernel_rfl
 | 19,_ => by kernel_rfl
 | 20,_ => by kernel_rfl
 | 21,_ => by kernel_rfl
 | 22,_ => by kernel_rfl
 | 23,_ => by kernel_rfl
 | 24,_ => by kernel_rfl
 | 25,_ => by kernel_rfl
 | 26,_ => by kernel_rfl
 | 27,_ => by kernel_rfl
 | 28,_ => by kernel_rfl
 | 29,_ => by kernel_rfl
 | 30,_ => by kernel_rfl
 | 31,_ => by kernel_rfl
 | k + 32,h => absurd h (by omega)
def nC:List Int→Int
 | [] => 0
 | b :: l => b + 2 * nC l
def b01 (l:List Int):Prop:=∀ b∈l,b = 0∨b = 1
theorem WG:∀ {l:List Int},b01 l→0≤nC l∧nC l < 2 ^ l.length
 | [],_ => by simp [nC]
 | b :: l,h => by
  have hb:=h b (by simp)
  obtain ⟨h1,h2⟩:=WG (l:=l) (fun x hx => h x (by simp [hx]))
  simp only [nC,List.length_cons,Int.pow_succ]
  rcases hb with rfl | rfl <;> omega
theorem JL:∀ (x y:List Int) (n:Int),JK (x ++ y) n = JK y (JK x n)
 | [],y,n => rfl
 | b :: x,y,n => by simp only [List.cons_append,JK]; exact JL x y _
theorem WI:∀ {l:List Int},b01 l→l.length≤40→JK l.reverse 0 = nC l
 | [],_,_ => rfl
 | b :: l,h,hn => by
  have hb:=h b (by simp)
  have hl:b01 l:=fun x hx => h x (by simp [hx])
  simp only [List.length_cons] at hn
  obtain ⟨h1,h2⟩:=WG hl
  have h3:(2:Int) ^ l.length≤2 ^ 40:=by exact_mod_cast Nat.pow_le_pow_right (by omega:1≤2) (by omega:l.length≤40)
  rw [List.reverse_cons,JL,WI hl (by omega)]
  simp only [JK,nC]
  rw [IntKind.wrap_i64,IntKind.wrap_i64]
  rcases hb with rfl | rfl <;> omega
theorem Y9 (k:Nat) (l:List Int):nC (List.replicate k 0 ++ l) = 2 ^ k * nC l:=by
 induction k with
 | zero => simp
 | succ k ih => rw [List.replicate_succ,List.cons_append,nC,ih,Int.pow_succ,Int.mul_comm (2 ^ k) 2,Int.mul_assoc]; omega
theorem Gn:∀ (l:List Int) (k:Nat),nC (l ++ List.replicate k 0) = nC l
 | [],k => by
  induction k with
  | zero => rfl
  | succ k ih => rw [List.replicate_succ]; simp only [List.nil_append,nC] at *; rw [ih]; rfl
 | b :: l,k => by simp only [List.cons_append,nC]; rw [Gn l k]
theorem Ef (y:Int):∀ (n i:Nat),nC (qF y i n) = y / 2 ^ i % 2 ^ n
 | 0,i => by simp [qF,nC]
 | n + 1,i => by
  have hp:(0:Int) < 2 ^ i:=Int.pow_pos (by omega)
  have hq:(0:Int) < 2 ^ n:=Int.pow_pos (by omega)
  simp only [qF,nC]
  rw [Ef y n (i + 1),Int.pow_succ,Int.pow_succ,← Int.ediv_ediv_of_nonneg (by omega)]
  generalize y / 2 ^ i = z
  rw [Int.mul_comm (2 ^ n) 2]
  have e:z = 2 * (z / 2) + z % 2:=by omega
  have e2:=Int.emod_add_mul_ediv (z / 2) (2 ^ n)
  have r0:=Int.emod_nonneg (z / 2) (by omega:(2:Int) ^ n≠0)
  have r1:=Int.emod_lt_of_pos (z / 2) hq
  have e3:z = (z % 2 + 2 * (z / 2 % 2 ^ n)) + (2 * 2 ^ n) * (z / 2 / 2 ^ n):=by
   rw [Int.mul_assoc]
   generalize 2 ^ n * (z / 2 / 2 ^ n) = t at *
   omega
  have e4:z % (2 * 2 ^ n) = (z % 2 + 2 * (z / 2 % 2 ^ n)) % (2 * 2 ^ n):=by
   conv => lhs; rw [e3]
   exact Int.add_mul_emod_self_left _ _ _
  have m0:0≤z % 2:=by omega
  have m1:z % 2 < 2:=by omega
  rw [e4]
  clear e e2 e3 e4
  generalize z / 2 % 2 ^ n = r at *
  generalize (2:Int) ^ n = p at *
  exact (Int.emod_eq_of_lt (by omega) (by omega)).symm
theorem TK (y:Int) (i n:Nat):b01 (qF y i n):=Ls y n i
theorem JM {x y:List Int} (h:b01 x) (h':b01 y):b01 (x ++ y):=fun b hb => (List.mem_append.1 hb).elim (h b) (h' b)
theorem Nw (k:Nat):b01 (List.replicate k 0):=fun b hb => .inl (List.eq_of_mem_replicate hb)
theorem WJ {l:List Int} (h:b01 l) (hl:l.length≤40):Nv l = .int .i32 (kW (nC l)).v:=by unfold Nv; rw [WI h hl]
theorem alJ (b:Int):bits BinOp.and IntKind.i32 b 31 = b % 32:=by
 show IntKind.i32.wrap ((BitVec.ofInt 32 b &&& BitVec.ofInt 32 31).toNat:Int) = _
 have h2:(BitVec.ofInt 32 31).toNat = 2 ^ 5 - 1:=by decide
 rw [BitVec.toNat_and,h2,Nat.and_two_pow_sub_one_eq_mod,IntKind.wrap_i32,BitVec.toNat_ofInt]
 omega
theorem OV (b:Int):sh b = (b % 32).toNat:=by
 unfold sh
 rw [alJ]
 have:IntKind.u64.wrap (b % 32) = b % 32:=by
  simp only [IntKind.wrap,IntKind.signed,IntKind.bits]
  simp
  omega
 rw [this]
 omega
theorem alK (a n:Wd) (k:Nat) (hk:n.v % 32 = k) (h:k < 32):Nv (List.replicate k 0 ++ qF (a.v % 4294967296) 0 (32 - k)) = .int .i32 (tJ a n).v:=by
 rw [WJ (JM (Nw k) (TK _ _ _)) (by simp [zI]; omega),Y9,Ef]
 show Value.int .i32 (wrap32 _) = .int .i32 (qw a.v n.v)
 unfold qw
 rw [OV,hk,Int.toNat_natCast]
 congr 2
 have e:(4294967296:Int) = 2 ^ (32 - k) * 2 ^ k:=by rw [← Int.pow_add,Nat.sub_add_cancel (by omega)]; decide
 generalize a.v % 4294967296 = y
 rw [e,Int.mul_comm y,Int.mul_comm (2 ^ (32 - k)),Int.mul_emod_mul_of_pos _ _ (Int.pow_pos (by omega))]
 simp
theorem alL (a n:Wd) (k:Nat) (hk:n.v % 32 = k) (h:k < 32):Nv (qF (a.v % 4294967296) k (32 - k) ++ List.replicate k 0) = .int .i32 (tK a n).v:=by
 rw [WJ (JM (TK _ _ _) (Nw k)) (by simp [zI]; omega),Gn,Ef]
 show Value.int .i32 (wrap32 _) = .int .i32 (sZ a.v n.v)
 unfold sZ
 rw [OV,hk,Int.toNat_natCast]
 have h0:0≤a.v % 4294967296:=by omega
 have h1:a.v % 4294967296 < 4294967296:=by omega
 generalize a.v % 4294967296 = y at *
 have hp:(0:Int) < 2 ^ k:=Int.pow_pos (by omega)
 rw [Int.emod_eq_of_lt (Int.ediv_nonneg h0 (by omega))]
 refine Int.ediv_lt_of_lt_mul hp ?_
 have e:(4294967296:Int) = 2 ^ (32 - k) * 2 ^ k:=by rw [← Int.pow_add,Nat.sub_add_cancel (by omega)]; decide
 omega
theorem alM (a n:Wd) (k:Nat) (hk:n.v % 32 = k) (h:k < 32):alI a.v (Int.ofNat (2 ^ k)) = .int .i32 (zB a n).v:=by
 have ok:=a.ok
 unfold aB at ok
 show Value.int .i32 _ = .int .i32 (xM a.v n.v)
 unfold xM
 rw [OV,hk,Int.toNat_natCast]
 have hp:(0:Int) < 2 ^ k:=Int.pow_pos (by omega)
 have hq:(2:Int) ^ k≤2147483648:=by
  have:(2:Int) ^ k≤2 ^ 31:=by exact_mod_cast Nat.pow_le_pow_right (by omega:1≤2) (by omega:k≤31)
  simpa using this
 have em:Int.ofNat (2 ^ k) = (2:Int) ^ k:=by simp
 rw [em]
 have w0:IntKind.i64.wrap a.v = a.v:=by rw [IntKind.wrap_i64]; omega
 have r0:=Int.emod_nonneg a.v (by omega:(2:Int) ^ k≠0)
 have r1:=Int.emod_lt_of_pos a.v hp
 have w1:IntKind.i64.wrap (a.v - a.v % 2 ^ k) = a.v - a.v % 2 ^ k:=by rw [IntKind.wrap_i64]; omega
 have e1:a.v - a.v % 2 ^ k = 2 ^ k * (a.v / 2 ^ k):=by have:=Int.emod_add_mul_ediv a.v (2 ^ k); omega
 have e2:(a.v - a.v % 2 ^ k).tdiv (2 ^ k) = a.v / 2 ^ k:=by rw [e1,Int.mul_tdiv_cancel_left _ (by omega)]
 have hs:=zB a n
 have b0:=(QC a.v n.v a.ok)
 unfold xM aB at b0
 rw [OV,hk,Int.toNat_natCast] at b0
 rw [w0,w1,e2]
 congr 1
 rw [IntKind.wrap_i32,IntKind.wrap_i64]
 omega
theorem Am (a n:Wd):eG [.int .i32 a.v,.int .i32 n.v]:=fun v hv => by
 simp at hv
 rcases hv with rfl | rfl
 · exact oH a
 · exact oH n
theorem TL {n:Wd} {k m:Nat} (h:n.v % 32 = k):∀ ob∈List.replicate m (TG n (Int.ofNat k)),lX Tryz.prog ob:=fun ob hob => by
 rw [List.eq_of_mem_replicate hob]
 exact ah1 h
theorem Y_ (n:Wd):∃ k:Nat,n.v % 32 = k∧k < 32:=⟨(n.v % 32).toNat,by omega,by omega⟩
theorem alN (a n:Wd) (w:World):Calls Tryz.prog 115 #[.int .i32 a.v,.int .i32 n.v] w fun e w' => e = .returned (.int .i32 (tJ a n).v)∧ah w w' []:=by
 obtain ⟨k,hk,h⟩:=Y_ n
 have:=bM _ (ah2 a n k h) (Am a n) (TL hk) w
 rw [fG,alK a n k hk h] at this
 exact this
theorem alO (a n:Wd) (w:World):Calls Tryz.prog 268 #[.int .i32 a.v,.int .i32 n.v] w fun e w' => e = .returned (.int .i32 (tK a n).v)∧ah w w' []:=by
 obtain ⟨k,hk,h⟩:=Y_ n
 have:=bM _ (ah3 a n k h) (Am a n) (TL hk) w
 rw [fG,alL a n k hk h] at this
 exact this
theorem alP (a n:Wd) (w:World):Calls Tryz.prog 124 #[.int .i32 a.v,.int .i32 n.v] w fun e w' => e = .returned (.int .i32 (zB a n).v)∧ah w w' []:=by
 obtain ⟨k,hk,h⟩:=Y_ n
 have:=bM _ (ah4 a n k h) (Am a n) (TL hk) w
 rw [alM a n k hk h] at this
 exact this
noncomputable def alQ:iM:=Ld 115 (fun a b => .int .i32 (tJ a b).v) (fun _ _ => jG _) alN
noncomputable def apL:iM:=Ld 268 (fun a b => .int .i32 (tK a b).v) (fun _ _ => jG _) alO
noncomputable def alR:iM:=Ld 124 (fun a b => .int .i32 (zB a b).v) (fun _ _ => jG _) alP
theorem anP (T:TypeId) (k:IntKind) (a b:Int):u_ Tryz.prog (.bin .eql T) [.int k a,.int k b] (.bool (a == b)):=fun x y w => by simp [eqGuard,binOp,Op.intCmp]
theorem anQ (T:TypeId) (k:IntKind) (a b:Int):u_ Tryz.prog (.bin .lss T) [.int k a,.int k b] (.bool (decide (a < b))):=fun x y w => by simp [eqGuard,binOp,Op.intCmp]
theorem af0 (T:TypeId) (k:IntKind) (a b:Int):u_ Tryz.prog (.bin .gtr T) [.int k a,.int k b] (.bool (decide (b < a))):=fun x y w => by simp [eqGuard,binOp,Op.intCmp]
theorem anR (T:TypeId) (k:IntKind) (a b:Int):u_ Tryz.prog (.bin .geq T) [.int k a,.int k b] (.bool (decide (b≤a))):=fun x y w => by simp [eqGuard,binOp,Op.intCmp]
def aeQ (T:TypeId) (k:IntKind) (a b:Int) (r:Bool):Ob:=.test (.bin .eql T) [.int k a,.int k b] (.bool r)
def Za (T:TypeId) (k:IntKind) (a b:Int) (r:Bool):Ob:=.test (.bin .lss T) [.int k a,.int k b] (.bool r)
def aeR (T:TypeId) (k:IntKind) (a b:Int) (r:Bool):Ob:=.test (.bin .gtr T) [.int k a,.int k b] (.bool r)
def Ie (T:TypeId) (k:IntKind) (a b:Int) (r:Bool):Ob:=.test (.bin .geq T) [.int k a,.int k b] (.bool r)
theorem WL {T:TypeId} {k:IntKind} {a b:Int} {r:Bool} (h:(a == b) = r):lX Tryz.prog (aeQ T k a b r):=by subst h; exact anP T k a b
theorem Lu {T:TypeId} {k:IntKind} {a b:Int} {r:Bool} (h:decide (a < b) = r):lX Tryz.prog (Za T k a b r):=by subst h; exact anQ T k a b
theorem WM {T:TypeId} {k:IntKind} {a b:Int} {r:Bool} (h:decide (b < a) = r):lX Tryz.prog (aeR T k a b r):=by subst h; exact af0 T k a b
theorem w_ {T:TypeId} {k:IntKind} {a b:Int} {r:Bool} (h:decide (b≤a) = r):lX Tryz.prog (Ie T k a b r):=by subst h; exact anR T k a b
theorem Eh:∀ ob∈([]:List Ob),lX Tryz.prog ob:=fun ob h => by cases h
theorem Cc {a:Ob} (ha:lX Tryz.prog a):∀ ob∈[a],lX Tryz.prog ob:=fun ob h => by simp at h; subst h; exact ha
theorem Zb {a:Ob} {l:List Ob} (ha:lX Tryz.prog a) (hl:∀ ob∈l,lX Tryz.prog ob):∀ ob∈a :: l,lX Tryz.prog ob:=fun ob h => by
 rcases List.mem_cons.1 h with rfl | h
 · exact ha
 · exact hl ob h
theorem LC (a:Wd):eG [.int .i32 a.v]:=fun v hv => by simp at hv; subst hv; exact oH a
theorem apM (a b c:Wd):eG [.int .i32 a.v,.int .i32 b.v,.int .i32 c.v]:=fun v hv => by
 simp at hv
 rcases hv with rfl | rfl | rfl
 · exact oH a
 · exact oH b
 · exact oH c
theorem TM {x:Int} (h:-9223372036854775808≤x∧x≤9223372036854775807):eG [.int .i64 x]:=fun v hv => by simp at hv; subst hv; exact La h
def Ei (x:Int):Wd:=⟨jX x,Dy x⟩
set_option maxRecDepth 100000 in
theorem aeS (x:Int):jm (mW [] [] [(1,true)]) (fQ []) 100 205 [.opq 0] [.int .i64 x] = some (.int .i32 (-2147483648),[Za 2 .i64 x (-2147483648) true]):=by kernel_rfl
set_option maxRecDepth 100000 in
theorem aeT (x:Int):jm (mW [] [] [(1,false),(2,true)]) (fQ []) 100 205 [.opq 0] [.int .i64 x] = some (.int .i32 2147483647,[aeR 2 .i64 x 2147483647 true,Za 2 .i64 x (-2147483648) false]):=by kernel_rfl
set_option maxRecDepth 100000 in
theorem aeU (x:Int):jm (mW [] [] [(1,false),(2,false)]) (fQ []) 100 205 [.opq 0] [.int .i64 x] = some (.int .i32 (IntKind.i32.wrap x),[aeR 2 .i64 x 2147483647 false,Za 2 .i64 x (-2147483648) false]):=by kernel_rfl
theorem alS (x:Int) (hx:-9223372036854775808≤x∧x≤9223372036854775807) (w:World):Calls Tryz.prog 205 #[.int .i64 x] w fun e w' => e = .returned (.int .i32 (Ei x).v)∧ah w w' []:=by
 have hv:(Ei x).v = min (max x (-2147483648)) 2147483647:=rfl
 rw [hv]
 by_cases h0:x < -2147483648
 · rw [show min (max x (-2147483648)) 2147483647 = -2147483648 by omega]
   exact bM _ (aeS x) (TM hx) (Cc (Lu (by simpa using h0))) w
 · by_cases h1:2147483647 < x
   · rw [show min (max x (-2147483648)) 2147483647 = 2147483647 by omega]
     exact bM _ (aeT x) (TM hx) (Zb (WM (by simpa using h1)) (Cc (Lu (by simpa using h0)))) w
   · rw [show min (max x (-2147483648)) 2147483647 = IntKind.i32.wrap x by rw [IntKind.wrap_i32]; omega]
     exact bM _ (aeU x) (TM hx) (Zb (WM (by simpa using h1)) (Cc (Lu (by simpa using h0)))) w
noncomputable def Zc:iM:=afN 205 (fun x => .int .i32 (Ei x).v) (fun x hx => ⟨jG _,alS x hx⟩)
def aeV:List (FuncId × Sh):=[(205,.one)]
set_option maxRecDepth 100000 in
theorem ah5 (a b:Wd):jm (mW [] aeV []) (fQ [Zc]) 100 121 [.opq 0,.opq 1] [.int .i32 a.v,.int .i32 b.v] = some (.int .i32 (Ei (IntKind.i64.wrap (IntKind.i64.wrap a.v + IntKind.i64.wrap b.v))).v,[]):=by kernel_rfl
set_option maxRecDepth 100000 in
theorem ah6 (a b:Wd):jm (mW [] aeV []) (fQ [Zc]) 100 126 [.opq 0,.opq 1] [.int .i32 a.v,.int .i32 b.v] = some (.int .i32 (Ei (IntKind.i64.wrap (IntKind.i64.wrap a.v - IntKind.i64.wrap b.v))).v,[]):=by kernel_rfl
set_option maxRecDepth 100000 in
theorem ah7 (a:Wd):jm (mW [] aeV []) (fQ [Zc]) 100 204 [.opq 0] [.int .i32 a.v] = some (.int .i32 (Ei (IntKind.i64.wrap (0 - IntKind.i64.wrap a.v))).v,[]):=by kernel_rfl
theorem w64 (a:Wd):IntKind.i64.wrap a.v = a.v:=by have:=a.ok; unfold aB at this; rw [IntKind.wrap_i64]; omega
theorem alU (a b:Wd) (w:World):Calls Tryz.prog 121 #[.int .i32 a.v,.int .i32 b.v] w fun e w' => e = .returned (.int .i32 (iI a b).v)∧ah w w' []:=by
 have h:=bM _ (ah5 a b) (Am a b) Eh w
 have ha:=a.ok
 have hb:=b.ok
 unfold aB at ha hb
 rw [w64,w64,show IntKind.i64.wrap (a.v + b.v) = a.v + b.v by rw [IntKind.wrap_i64]; omega] at h
 exact h
theorem alV (a b:Wd) (w:World):Calls Tryz.prog 126 #[.int .i32 a.v,.int .i32 b.v] w fun e w' => e = .returned (.int .i32 (rO a b).v)∧ah w w' []:=by
 have h:=bM _ (ah6 a b) (Am a b) Eh w
 have ha:=a.ok
 have hb:=b.ok
 unfold aB at ha hb
 rw [w64,w64,show IntKind.i64.wrap (a.v - b.v) = a.v - b.v by rw [IntKind.wrap_i64]; omega] at h
 exact h
theorem alW (a:Wd) (w:World):Calls Tryz.prog 204 #[.int .i32 a.v] w fun e w' => e = .returned (.int .i32 (qx a).v)∧ah w w' []:=by
 have h:=bM _ (ah7 a) (LC a) Eh w
 have ha:=a.ok
 unfold aB at ha
 rw [w64,show IntKind.i64.wrap (0 - a.v) = -a.v by rw [IntKind.wrap_i64]; omega] at h
 exact h
noncomputable def aeW:iM:=Ld 121 (fun a b => .int .i32 (iI a b).v) (fun _ _ => jG _) alU
noncomputable def alX:iM:=Ld 126 (fun a b => .int .i32 (rO a b).v) (fun _ _ => jG _) alV
noncomputable def apN:iM:=Lc 204 (fun a => .int .i32 (qx a).v) (fun _ => jG _) alW
def rY (x:Int):Int:=bif decide (536870912≤x % 1073741824) then IntKind.i64.wrap (IntKind.i64.wrap ((IntKind.i64.wrap (x - x % 1073741824)).tdiv 1073741824) + 1) else IntKind.i64.wrap ((IntKind.i64.wrap (x - x % 1073741824)).tdiv 1073741824)
set_option maxRecDepth 100000 in
theorem Zd (x:Int):jm (mW [] [(131,.one)] [(4,true)]) (fQ [TJ]) 200 313 [.opq 0,.lit (.int .i64 30)] [.int .i64 x] = some (.int .i64 (IntKind.i64.wrap (IntKind.i64.wrap ((IntKind.i64.wrap (x - x % 1073741824)).tdiv 1073741824) + 1)),[Ie 2 .i64 (x % 1073741824) 536870912 true]):=by kernel_rfl
set_option maxRecDepth 100000 in
theorem Ze (x:Int):jm (mW [] [(131,.one)] [(4,false)]) (fQ [TJ]) 200 313 [.opq 0,.lit (.int .i64 30)] [.int .i64 x] = some (.int .i64 (IntKind.i64.wrap ((IntKind.i64.wrap (x - x % 1073741824)).tdiv 1073741824)),[Ie 2 .i64 (x % 1073741824) 536870912 false]):=by kernel_rfl
theorem aeX (x:Int) (hx:-9223372036854775808≤x∧x≤9223372036854775807) (w:World):Calls Tryz.prog 313 #[.int .i64 x,.int .i64 30] w fun e w' => e = .returned (.int .i64 (rY x))∧ah w w' []:=by
 by_cases h:536870912≤x % 1073741824
 · have hr:rY x = IntKind.i64.wrap (IntKind.i64.wrap ((IntKind.i64.wrap (x - x % 1073741824)).tdiv 1073741824) + 1):=by unfold rY; rw [decide_eq_true h]; rfl
   rw [hr]
   exact bM _ (Zd x) (TM hx) (Cc (w_ (by simpa using h))) w
 · have hr:rY x = IntKind.i64.wrap ((IntKind.i64.wrap (x - x % 1073741824)).tdiv 1073741824):=by unfold rY; rw [decide_eq_false h]; rfl
   rw [hr]
   exact bM _ (Ze x) (TM hx) (Cc (w_ (by simpa using h))) w
def ab4:List Value→Option Value
 | [.int .i64 a,.int .i64 b] => bif decide (b = 30) then some (.int .i64 (rY a)) else none
 | _ => none
theorem ah8 (x:Int):-9223372036854775808≤rY x∧rY x≤9223372036854775807:=by
 unfold rY
 generalize (IntKind.i64.wrap (x - x % 1073741824)).tdiv 1073741824 = q
 cases decide (536870912≤x % 1073741824) <;> simp only [cond_true,cond_false,IntKind.wrap_i64] <;> omega
noncomputable def alY:iM where
 f:=313
 fn:=ab4
 ok:=fun us v hv hg => by
  unfold ab4 at hv
  split at hv
  · rename_i a b
    cases hb:decide (b = 30) with
    | false => rw [hb] at hv; cases hv
    | true =>
     rw [hb] at hv
     injection hv with hv
     subst hv
     obtain rfl:=of_decide_eq_true hb
     exact ⟨Hz (ah8 a),aeX a (rU (eY (hg (.int .i64 a) (by simp))))⟩
  · cases hv
set_option maxRecDepth 100000 in
theorem aeY (a b:Wd):jm (mW [] [(205,.one),(313,.one)] []) (fQ [Zc,alY]) 100 261 [.opq 0,.opq 1] [.int .i32 a.v,.int .i32 b.v] = some (.int .i32 (Ei (rY (IntKind.i64.wrap (IntKind.i64.wrap a.v * IntKind.i64.wrap b.v)))).v,[]):=by kernel_rfl
theorem ah9 {p:Int} (h:-4611686018427387904≤p∧p≤4611686018427387904):rY p = p / 1073741824 + p / 536870912 % 2:=by
 have e1:IntKind.i64.wrap (p - p % 1073741824) = 1073741824 * (p / 1073741824):=by rw [IntKind.wrap_i64]; omega
 have e2:IntKind.i64.wrap ((1073741824 * (p / 1073741824)).tdiv 1073741824) = p / 1073741824:=by rw [Int.mul_tdiv_cancel_left _ (by omega),IntKind.wrap_i64]; omega
 unfold rY
 rw [e1,e2]
 by_cases h2:536870912≤p % 1073741824
 · rw [decide_eq_true h2]
   simp only [cond_true,IntKind.wrap_i64]
   omega
 · rw [decide_eq_false h2]
   simp only [cond_false]
   omega
theorem ah_ (a b:Wd) (w:World):Calls Tryz.prog 261 #[.int .i32 a.v,.int .i32 b.v] w fun e w' => e = .returned (.int .i32 (aP a b).v)∧ah w w' []:=by
 have h:=bM _ (aeY a b) (Am a b) Eh w
 have hp:=prod_bound a.ok b.ok
 rw [w64,w64,show IntKind.i64.wrap (a.v * b.v) = a.v * b.v by rw [IntKind.wrap_i64]; generalize a.v * b.v = p at *; omega] at h
 have e:(Ei (rY (a.v * b.v))).v = (aP a b).v:=by
  show jX (rY (a.v * b.v)) = jX (a.v * b.v / 1073741824 + a.v * b.v / 536870912 % 2)
  rw [ah9 hp]
 rw [e] at h
 exact h
noncomputable def af2:iM:=Ld 261 (fun a b => .int .i32 (aP a b).v) (fun _ _ => jG _) ah_
end Go.Proofs.YtjcgiddgafjdpaaGreatDoor.Xi

/- Xi: runs on the mill of numbers: calls that are handed a mill answer words, and may add cells to the mill. -/
namespace Go.Proofs.YtjcgiddgafjdpaaGreatDoor.Xi
open Go Go.RowKit
set_option linter.unusedVariables false
set_option linter.unusedSimpArgs false
inductive MA where
 | apT (p:Addr)
 | bare (p:Addr)
 | w (x:Wd)
 | a (l:List Wd)
inductive MO where
 | w (x:Wd)
 | a (l:List Wd)
 | t (l:List MO)
 | v (x:Value)
def wv (x:Wd):Value:=.int .i32 x.v
def wvs (l:List Wd):List Value:=l.map wv
def MA.val:MA→Value
 | .apT p => .agg #[.iface 21 (.pointer (some p))]
 | .bare p => .pointer (some p)
 | .w x => wv x
 | .a l => .agg (wvs l).toArray
mutual
def MO.val:MO→Value
 | .w x => wv x
 | .a l => .agg (wvs l).toArray
 | .t l => .tuple (MO.vals l).toArray
 | .v x => x
def MO.vals:List MO→List Value
 | [] => []
 | o :: l => o.val :: MO.vals l
end
def bw:List AV→List Wd→List Wd→Option (List Wd)
 | [],[],ρ => some ρ
 | .opq i :: l,x :: xs,ρ => bif Nat.beq i (aG ρ) then fL (ρ ++ [x]) fun ρ => bw l xs ρ else none
 | _,_,_ => none
def b1:AV→MO→List Wd→Option (List Wd)
 | .opq i,.w x,ρ => bw [.opq i] [x] ρ
 | .agg cs,.a xs,ρ => bw cs xs ρ
 | _,_,_ => none
structure arA where
 f:FuncId
 fn:List MA→Option MO
 ok:∀ us o,fn us = some o→∀ w:World,Calls Tryz.prog f (us.map MA.val).toArray w fun e w' => e = .returned o.val∧ah w w' []
inductive OW where
 | call (f:FuncId) (us:List MA) (v:Value)
 | test (p:Pr) (xs:List Wd) (b:Bool)
end Go.Proofs.YtjcgiddgafjdpaaGreatDoor.Xi
