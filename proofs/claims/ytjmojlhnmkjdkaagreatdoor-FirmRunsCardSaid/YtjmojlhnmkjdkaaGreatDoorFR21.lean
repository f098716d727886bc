/- Texts of this claim, side by side. -/
import Derived.Test.YtjmojlhnmkjdkaaGreatDoorFirmI
import Derived.Test.YtjmojlhnmkjdkaaGreatDoorFedFeed
set_option linter.unusedVariables false
set_option maxRecDepth 100000
set_option maxHeartbeats 8000000
namespace Go.Proofs.YtjmojlhnmkjdkaaGreatDoor
section
open Go Go.RowKit Go.Deep Go.Maps Ab Xi
attribute [local go_sem] Oper.semAt_some
set_option maxRecDepth 100000
def FV:List Wd:=fF.map kW
theorem Qn:FV.map (·.v)=fF:=by kernel_rfl
theorem anP:(mM.all fun p=>match FV[p.1]? with | some x=>decide (x.v=(kW ((p.2:Nat):Int)).v) | none=>false)=true:=by kernel_rfl
theorem RI:FV.length=908:=by kernel_rfl
theorem ali:Dk (s7 st0) FV where
 len:=RI
 st:=fun j v hj=>by
  have hj7:j < 7:=(List.getElem?_eq_some_iff.1 hj).1;rcases (by omega:j=0\/j=1\/j=2\/j=3\/j=4\/j=5\/j=6) with rfl | rfl | rfl | rfl | rfl | rfl | rfl<;>(rw [<- hj]; show _=_; kernel_rfl)
 ks:=fun p hp=>by
  have h:=List.all_eq_true.1 anP p hp;split at h
  . rename_i x hx
    rw [hx];exact congrArg some (Wd.dw (of_decide_eq_true h))
  . cases h
def FC (w:World) (c:Nat) (x:Xi.St) (s:CS) (F:List Nat):Prop:=∃ mem,fK w c (wordsOf aK 2921) s (mem.map (·.v)) F/\Dk (s7 x) mem
def OO (s:CS):Prop:=s.st=1/\s.marks=bW.map AX/\s.cost=gJ bW
theorem FC.aj {w w':World} {c:Nat} {x:Xi.St} {s:CS} {F D:List Nat} (h:FC w c x s F) (hc:ah w w' D) (hD:∀ k∈F,k∉D) (hG:∀ k∈D,11<=k):FC w' c x s F:=by
 obtain ⟨mem,h1,h2⟩:=h;exact ⟨mem,h1.aj hc hD hG,h2⟩
theorem FC.cO {w w':World} {c:Nat} {x:Xi.St} {s:CS} {F:List Nat} (h:FC w c x s F) (hc:ah w w' []):FC w' c x s F:=h.aj hc (by simp) (by simp)
theorem FC.lt {w:World} {c:Nat} {x:Xi.St} {s:CS} {F:List Nat} (h:FC w c x s F):∀ k∈F,k < w.heap.size:=by
 obtain ⟨mem,h1,_⟩:=h;exact h1.lt
abbrev Bl (w:World) (v:Value):Prop:=wU w v ((wordsOf aK 2921).map fun w:Nat=>(w:Int)) fF jQ [0,1,2,3,4,5,6,7,8,9,10,11,12,13,14,15,16,17,18,19] bG
theorem rQ:(wordsOf aK 2921).length=2921:=Ia
theorem Ef {w:World} {v:Value} {xs:List Value} (h:Sl w v xs) (hx:0 < xs.length):∀ k,Xi.dK v=some k->k < w.heap.size:=by
 obtain ⟨A,c,rfl,_⟩:=id h;obtain ⟨b,off,rfl,_,hb⟩:=h.at_ (k:=0) (u:=xs[0]'hx) (by simp);intro k hk;have:b=k:=Option.some.inj hk;omega
theorem JD {w:World} {v:Value} (h:Bl w v):∀ k∈yC v,k < w.heap.size:=by
 obtain ⟨v1,v2,v3,v4,v5,rfl,g1,g2,g3,g4,g5⟩:=h;have q1:=Ef g1 (by simp only [jo,List.length_map,rQ]; omega);have q2:=Ef g2 (by rw [sQ,show fF.length=908 by decide +kernel]; omega);have q3:=Ef g3 (by rw [show (bools jQ).length=jQ.length by simp [bools],show jQ.length=908 by decide +kernel]; omega);have q4:=Ef g4 (by rw [sO]; decide);have q5:=Ef g5 (by rw [sO,show bG.length=32 by decide +kernel]; omega);intro k hk;obtain ⟨u,hu,hub⟩:=List.mem_filterMap.1 hk;simp only [List.mem_cons,List.not_mem_nil,or_false] at hu;rcases hu with rfl | rfl | rfl | rfl | rfl
 . exact q1 k hub
 . exact q2 k hub
 . exact q3 k hub
 . exact q4 k hub
 . exact q5 k hub
theorem Iy {w:World} {v:Value} {xs:List Value} (h:Sl w v xs) (hx:0 < xs.length):∃ b,Xi.dK v=some b/\∀ (A:Addr) (n c:Nat),v=.slice (some A) n c->A.block=b:=by
 obtain ⟨A,c,rfl,_⟩:=id h;obtain ⟨b,off,rfl,_,hb⟩:=h.at_ (k:=0) (u:=xs[0]'hx) (by simp);refine ⟨b,rfl,fun A' n' c' e=>?_⟩;injection e with e; injection e with e;rw [<- e]
theorem X3 {w w':World} {v:Value} {F:List Nat} (h:Bl w v) (hc:ah w w' F) (hF:∀ k∈yC v,k∉F):Bl w' v:=by
 obtain ⟨v1,v2,v3,v4,v5,rfl,g1,g2,g3,g4,g5⟩:=h;obtain ⟨q1,r1,s1⟩:=Iy g1 (by simp only [jo,List.length_map,rQ]; omega);obtain ⟨q2,r2,s2⟩:=Iy g2 (by rw [sQ,show fF.length=908 by decide +kernel]; omega);obtain ⟨q3,r3,s3⟩:=Iy g3 (by rw [show (bools jQ).length=jQ.length by simp [bools],show jQ.length=908 by decide +kernel]; omega);obtain ⟨q4,r4,s4⟩:=Iy g4 (by rw [sO]; decide);obtain ⟨q5,r5,s5⟩:=Iy g5 (by rw [sO,show bG.length=32 by decide +kernel]; omega);have key:∀ u∈[v1,v2,v3,v4,v5],∀ b,Xi.dK u=some b->b∉F:=fun u hu b hb=>hF _ (List.mem_filterMap.2 ⟨u,hu,hb⟩);exact ⟨v1,v2,v3,v4,v5,rfl,g1.aj hc (fun A n c e=>by rw [s1 A n c e]; exact key v1 (by simp) _ r1),g2.aj hc (fun A n c e=>by rw [s2 A n c e]; exact key v2 (by simp) _ r2),g3.aj hc (fun A n c e=>by rw [s3 A n c e]; exact key v3 (by simp) _ r3),g4.aj hc (fun A n c e=>by rw [s4 A n c e]; exact key v4 (by simp) _ r4),g5.aj hc (fun A n c e=>by rw [s5 A n c e]; exact key v5 (by simp) _ r5)⟩
theorem OQ {w:World} (hg:qg w) {vc vd:Value} (hs:Sl w vc (jo ((wordsOf aK 2921).map fun n:Nat=>(n:Int)))) (hd:Sl w vd (bI fF)) :
 Calls Tryz.prog 23 #[vc,vd] w fun e w'=>∃ c F,e=.returned (.tuple #[.pointer (some ⟨c,0,none⟩),.int .i64 0])/\ah w w' []/\FC w' c st0 rY F/\∀ k∈F,w.heap.size<=k:=by
 obtain ⟨A,cc,rfl,_⟩:=id hs;obtain ⟨A2,cd,rfl,_⟩:=id hd;have e1:(jo ((wordsOf aK 2921).map fun n:Nat=>(n:Int))).length=(wordsOf aK 2921).length:=by simp only [jo,List.length_map]
 rw [e1] at hs ⊢;rw [sQ] at hd ⊢;refine (Oc hg A A2 cc cd (wordsOf aK 2921) fF hs hd Z8 Z9 (by rw [rQ]; decide) (by decide)).mono ?_;rintro e w' ⟨c,F,rfl,hc,hk,hF⟩;exact ⟨c,F,rfl,hc,⟨FV,by rw [Qn]; exact hk,ali⟩,hF⟩
theorem aaN (x0 x1 x2 x3 x4 x5 x6 x7 x8 x9 x10 x11 x12 x13 x14 x15 x16 x17 x18 x19:Int) (mem:List Wd) (hl:mem.length=908):([kW x0,kW x1,kW x2,kW x3,kW x4,kW x5,kW x6,kW x7,kW x8,kW x9,kW x10,kW x11,kW x12,kW x13,kW x14,kW x15,kW x16,kW x17,kW x18,kW x19] ++ mem.drop 20).map (·.v)=je [0,1,2,3,4,5,6,7,8,9,10,11,12,13,14,15,16,17,18,19] [(kW x0).v,(kW x1).v,(kW x2).v,(kW x3).v,(kW x4).v,(kW x5).v,(kW x6).v,(kW x7).v,(kW x8).v,(kW x9).v,(kW x10).v,(kW x11).v,(kW x12).v,(kW x13).v,(kW x14).v,(kW x15).v,(kW x16).v,(kW x17).v,(kW x18).v,(kW x19).v] (mem.map (·.v)):=by
 match mem,hl with
 | m0 :: m1 :: m2 :: m3 :: m4 :: m5 :: m6 :: m7 :: m8 :: m9 :: m10 :: m11 :: m12 :: m13 :: m14 :: m15 :: m16 :: m17 :: m18 :: m19 :: t,_=>(show _=_; kernel_rfl)
theorem J7:0<=gJ bW/\gJ bW<=100000:=by
 have h:=zB bW aaq;rw [wI] at h;omega
theorem X4 {w:World} (hg:qg w) {c:Nat} {x:Xi.St} {s:CS} {F:List Nat} (h:FC w c x s F) (hx:x.right) {v vin:Value} (him:Bl w v) (mY:∀ k∈yC v,k∉F) {l:List Nat} (hl:l.length=20) (hb:∀ y∈l,y < 256) (hin:Sl w vin (bI (l.map fun n:Nat=>(n:Int)))) (hfin:∀ k,Xi.dK vin=some k->k∉F) :
 Calls Tryz.prog 34 #[.pointer (some ⟨c,0,none⟩),v,vin] w fun e w'=>∃ u F' s',e=.returned u/\ah w w' F/\Sub F' F w/\FC w' c (x.next l) s' F'/\OO s'/\w'.ownsRow w.heap.size 21 1 u 32 (bI (((x.next l).frame (iq l)).map fun n:Nat=>(n:Int))):=by
 obtain ⟨mem,h1,h2⟩:=h
 match l,hl with
 | [x0,x1,x2,x3,x4,x5,x6,x7,x8,x9,x10,x11,x12,x13,x14,x15,x16,x17,x18,x19],_ =>
  obtain ⟨N,m',hN,hr,hst,hks,hv,hm'⟩:=LC h2 (kW (x0:Int)) (kW (x1:Int)) (kW (x2:Int)) (kW (x3:Int)) (kW (x4:Int)) (kW (x5:Int)) (kW (x6:Int)) (kW (x7:Int)) (kW (x8:Int)) (kW (x9:Int)) (kW (x10:Int)) (kW (x11:Int)) (kW (x12:Int)) (kW (x13:Int)) (kW (x14:Int)) (kW (x15:Int)) (kW (x16:Int)) (kW (x17:Int)) (kW (x18:Int)) (kW (x19:Int));obtain ⟨f1,f2⟩:=OL hx x0 x1 x2 x3 x4 x5 x6 x7 x8 x9 x10 x11 x12 x13 x14 x15 x16 x17 x18 x19 hb;rw [f1] at hm';have hf:=wM (x.next [x0,x1,x2,x3,x4,x5,x6,x7,x8,x9,x10,x11,x12,x13,x14,x15,x16,x17,x18,x19]) (Bj [x0,x1,x2,x3,x4,x5,x6,x7,x8,x9,x10,x11,x12,x13,x14,x15,x16,x17,x18,x19]);have hfl:=Xi.j_ (x.next [x0,x1,x2,x3,x4,x5,x6,x7,x8,x9,x10,x11,x12,x13,x14,x15,x16,x17,x18,x19]) (iq [x0,x1,x2,x3,x4,x5,x6,x7,x8,x9,x10,x11,x12,x13,x14,x15,x16,x17,x18,x19]);have hbv:∀ y∈[x0,x1,x2,x3,x4,x5,x6,x7,x8,x9,x10,x11,x12,x13,x14,x15,x16,x17,x18,x19],(kW ((y:Nat):Int)).v=(y:Int):=fun y hy=>dU (by have:=hb y hy; omega);have hp:=aaN (x0:Int) (x1:Int) (x2:Int) (x3:Int) (x4:Int) (x5:Int) (x6:Int) (x7:Int) (x8:Int) (x9:Int) (x10:Int) (x11:Int) (x12:Int) (x13:Int) (x14:Int) (x15:Int) (x16:Int) (x17:Int) (x18:Int) (x19:Int) mem h2.len;rw [hbv x0 (by simp),hbv x1 (by simp),hbv x2 (by simp),hbv x3 (by simp),hbv x4 (by simp),hbv x5 (by simp),hbv x6 (by simp),hbv x7 (by simp),hbv x8 (by simp),hbv x9 (by simp),hbv x10 (by simp),hbv x11 (by simp),hbv x12 (by simp),hbv x13 (by simp),hbv x14 (by simp),hbv x15 (by simp),hbv x16 (by simp),hbv x17 (by simp),hbv x18 (by simp),hbv x19 (by simp)] at hp;have hws:(mem.map (·.v)).length=908:=by rw [List.length_map,h2.len]
  refine (Iw h1 hg him mY hin hfin (Nat.le_refl _) (fun a ha=>by rw [hws]; simp at ha; omega) (by decide) (by decide) hp hr hst (by rw [rQ]; decide) (by omega) (vals:=((x.next [x0,x1,x2,x3,x4,x5,x6,x7,x8,x9,x10,x11,x12,x13,x14,x15,x16,x17,x18,x19]).frame (iq [x0,x1,x2,x3,x4,x5,x6,x7,x8,x9,x10,x11,x12,x13,x14,x15,x16,x17,x18,x19])).map fun n:Nat=>(n:Int)) (by rw [List.length_map,hfl]; rfl) (fun j a y hj hy=>?_)).mono ?_
  . rw [List.getElem?_map] at hy
    cases hq:((x.next [x0,x1,x2,x3,x4,x5,x6,x7,x8,x9,x10,x11,x12,x13,x14,x15,x16,x17,x18,x19]).frame (iq [x0,x1,x2,x3,x4,x5,x6,x7,x8,x9,x10,x11,x12,x13,x14,x15,x16,x17,x18,x19]))[j]? with
    | none=>rw [hq] at hy; cases hy
    | some z =>
     rw [hq] at hy;injection hy with hy;subst hy;have hz:=hv j a (kW (z:Int)) hj (by rw [f2]; unfold yK; rw [List.getElem?_map,hq]; rfl);show (m'.mm.map (·.v))[a]?=_
     rw [List.getElem?_map,hz];exact congrArg some (dU (by have:=hf z (List.mem_of_getElem? hq); omega))
  . rintro e w' ⟨u,F',rfl,hc,hs,hk,ho⟩
    refine ⟨u,F',iM m',rfl,hc,hs,⟨m'.mm,hk,hm'⟩,⟨?_,?_,?_⟩,ho⟩
    . show ((m'.st:Nat):Int)=1
      rw [hst];rfl
    . show m'.ks.map AX=_
      rw [hks]
    . show gJ m'.ks=_
      rw [hks]
end

section
open Go Go.RowKit Go.Deep Go.Maps Ab Xi
attribute [local go_sem] Oper.semAt_some
theorem slN {Γ:Type} {ops:Array Oper} {t0:Array Value} {val:Γ->Nat->Value} {γ:Γ} {L:Nat->Bool} {a:Act} (ak:∀ t,t < t0.size->a.tmps.getD t undef=sH ops t0 val γ L t) (t i:Nat) (h:(Nat.blt t t0.size && sF ops t==some i)=true) (hL:L i=false):a.tmps.getD t undef=t0.getD t undef:=by
 rw [Bool.and_eq_true] at h;rw [ak t (aI.1 h.1)];unfold sH;rw [show sF ops t=some i by simpa using h.2];simp only [hL,cond_false]
def Rows (w:World) (v:Value) (ls:List (List Nat)):Prop:=∃ rs:List Value,Sl w v rs/\rs.length=ls.length/\∀ (i:Nat) (r:Value) (b:List Nat),rs[i]?=some r->ls[i]?=some b->Sl w r (fJ b)
theorem Rows.keep {w w':World} {v:Value} {ls:List (List Nat)} (h:Rows w v ls) (hc:ah w w' []):Rows w' v ls:=by
 obtain ⟨rs,h1,h2,h3⟩:=h;exact ⟨rs,h1.keep hc,h2,fun i r b hr hb=>(h3 i r b hr hb).keep hc⟩
theorem Rows.open_ {w:World} {v:Value} {ls:List (List Nat)} (h:Rows w v ls):∃ A c,v=.slice A ls.length c/\∀ (j:Nat) (b:List Nat),ls[j]?=some b->∃ bb off B cb,A=some ⟨bb,off,Option.none⟩/\w.cell? ⟨bb,off+j,Option.none⟩=some (.slice B b.length cb)/\Sl w (.slice B b.length cb) (fJ b):=by
 obtain ⟨rs,h1,h2,h3⟩:=h;obtain ⟨A,c,rfl,hx⟩:=oh h1;refine ⟨A,c,by rw [h2],fun j b hb=>?_⟩;obtain ⟨r,hr⟩:∃ r,rs[j]?=some r:=⟨rs[j]'(by have:=(List.getElem?_eq_some_iff.1 hb).1; omega),by simp⟩
 have hs:=h3 j r b hr hb;obtain ⟨bb,off,e1,e2⟩:=hx j r hr;obtain ⟨B,cb,rfl,_⟩:=id hs;rw [jT] at e2 hs;exact ⟨bb,off,B,cb,e1,e2.1,hs⟩
def gZ (x:Xi.St) (ls:List (List Nat)):Xi.St:=ls.foldl (fun x b=>x.next b) x
def dV:Xi.St->List (List Nat)->List (List Nat)
 | _,[]=>[]
 | x,b :: ls=>(x.next b).frame (iq b) :: dV (x.next b) ls
theorem xk:∀ (x:Xi.St) (ls:List (List Nat)),(dV x ls).length=ls.length
 | _,[]=>rfl
 | x,b :: ls=>by show (dV _ ls).length+1=ls.length+1; rw [xk]
theorem Dt (x:Xi.St) (ls:List (List Nat)) (b:List Nat):gZ x (ls ++ [b])=(gZ x ls).next b:=by unfold gZ; rw [List.foldl_append]; rfl
theorem Bo:∀ (x:Xi.St) (ls:List (List Nat)) (b:List Nat),dV x (ls ++ [b])=dV x ls ++ [((gZ x ls).next b).frame (iq b)]
 | _,[],_=>rfl
 | x,a :: ls,b=>by
  show _ :: dV _ (ls ++ [b])=_ :: (dV _ ls ++ _);rw [Bo];rfl
theorem Bq {x:Xi.St} (h:x.right):∀ (ls:List (List Nat)),(gZ x ls).right:=fun ls=>by
 induction ls generalizing x with
 | nil=>exact h
 | cons b ls ih=>exact ih (Xi.St.FU h b)
theorem OT:∀ (x:Xi.St) (ls:List (List Nat)) (j:Nat) (b:List Nat),ls[j]?=some b->(dV x ls)[j]?=some (((gZ x (ls.take j)).next b).frame (iq b))
 | _,[],j,b,h=>by simp at h
 | x,a :: ls,0,b,h=>by
  simp at h;subst h;rfl
 | x,a :: ls,j+1,b,h=>by
  have:=OT (x.next a) ls j b (by simpa using h);show (dV (x.next a) ls)[j]?=_;rw [this];rfl
structure kD (w:World) (base:Nat) (F:List Nat) (o:Value) (fs:List (List Nat)):Prop where
 row:∃ rs:List Value,w.ownsRow base 29 1 o rs.length rs/\rs.length=fs.length/\∀ (i:Nat) (r:Value) (b:List Nat),rs[i]?=some r->fs[i]?=some b->Sl w r (fJ b)/\∀ A n c,r=.slice (some A) n c->A.block∉F/\A.block < w.heap.size/\o.ownBlock≠some A.block
 far:∀ g,o.ownBlock=some g->g∉F
theorem kD.aj {w w':World} {base:Nat} {F F':List Nat} {o:Value} {fs:List (List Nat)} (h:kD w base F o fs) (hc:ah w w' F) (hs:Sub F' F w):kD w' base F' o fs where
 row:=by
  obtain ⟨rs,h1,h2,h3⟩:=h.row;refine ⟨rs,aH h1 hc h.far,h2,fun i r b hr hb=>?_⟩;obtain ⟨h4,h5⟩:=h3 i r b hr hb;refine ⟨h4.aj hc (fun A n c e=>(h5 A n c e).1),fun A n c e=>⟨fun hm=>?_,Nat.lt_of_lt_of_le (h5 A n c e).2.1 hc.size,(h5 A n c e).2.2⟩⟩;rcases hs _ hm with h6 | h6
  . exact (h5 A n c e).1 h6
  . have:=(h5 A n c e).2.1
    omega
 far:=fun g hg hm=>by
  obtain ⟨rs,h1,_⟩:=h.row;rcases hs g hm with h6 | h6
  . exact h.far g hg h6
  . have:=(h1.lt g hg).2
    omega
def vH (a1 a2 a3 a4 a5:Option Addr) (n1 c1 n2 c2 n3 c3 n4 c4 n5 c5 c:Nat) (o r:Value) (γ:Gh):Nat->Value
 | 0=>o
 | 1=>.pointer (some ⟨c,0,none⟩)
 | 2=>.agg #[.slice a1 n1 c1,.slice a2 n2 c2,.slice a3 n3 c3,.slice a4 n4 c4,.slice a5 n5 c5]
 | 3=>r
 | 4=>γ 4
 | 5=>γ 5
 | 6=>γ 6
 | 7=>γ 7
 | 8=>γ 8
 | 9=>γ 8
 | _=>undef
theorem ar0 (a1 a2 a3 a4 a5:Option Addr) (n1 c1 n2 c2 n3 c3 n4 c4 n5 c5 c:Nat) (o r:Value) (γ:Gh) (v:Value):∀ j,j∉([4]:List Nat)->vH a1 a2 a3 a4 a5 n1 c1 n2 c2 n3 c3 n4 c4 n5 c5 c o r (upd γ 4 v) j=vH a1 a2 a3 a4 a5 n1 c1 n2 c2 n3 c3 n4 c4 n5 c5 c o r γ j:=fun j hj=>by
 match j,hj with
 | 0,_=>rfl
 | 1,_=>rfl
 | 2,_=>rfl
 | 3,_=>rfl
 | 4,hj=>exact absurd (by decide) hj
 | 5,_=>rfl
 | 6,_=>rfl
 | 7,_=>rfl
 | 8,_=>rfl
 | 9,_=>rfl
 | _+10,_=>rfl
theorem ar1 (a1 a2 a3 a4 a5:Option Addr) (n1 c1 n2 c2 n3 c3 n4 c4 n5 c5 c:Nat) (o r:Value) (γ:Gh) (v:Value):∀ j,j∉([5]:List Nat)->vH a1 a2 a3 a4 a5 n1 c1 n2 c2 n3 c3 n4 c4 n5 c5 c o r (upd γ 5 v) j=vH a1 a2 a3 a4 a5 n1 c1 n2 c2 n3 c3 n4 c4 n5 c5 c o r γ j:=fun j hj=>by
 match j,hj with
 | 0,_=>rfl
 | 1,_=>rfl
 | 2,_=>rfl
 | 3,_=>rfl
 | 4,_=>rfl
 | 5,hj=>exact absurd (by decide) hj
 | 6,_=>rfl
 | 7,_=>rfl
 | 8,_=>rfl
 | 9,_=>rfl
 | _+10,_=>rfl
theorem ar2 (a1 a2 a3 a4 a5:Option Addr) (n1 c1 n2 c2 n3 c3 n4 c4 n5 c5 c:Nat) (o r:Value) (γ:Gh) (v:Value):∀ j,j∉([6]:List Nat)->vH a1 a2 a3 a4 a5 n1 c1 n2 c2 n3 c3 n4 c4 n5 c5 c o r (upd γ 6 v) j=vH a1 a2 a3 a4 a5 n1 c1 n2 c2 n3 c3 n4 c4 n5 c5 c o r γ j:=fun j hj=>by
 match j,hj with
 | 0,_=>rfl
 | 1,_=>rfl
 | 2,_=>rfl
 | 3,_=>rfl
 | 4,_=>rfl
 | 5,_=>rfl
 | 6,hj=>exact absurd (by decide) hj
 | 7,_=>rfl
 | 8,_=>rfl
 | 9,_=>rfl
 | _+10,_=>rfl
theorem ar4 (a1 a2 a3 a4 a5:Option Addr) (n1 c1 n2 c2 n3 c3 n4 c4 n5 c5 c:Nat) (o r:Value) (γ:Gh) (v:Value):∀ j,j∉([7]:List Nat)->vH a1 a2 a3 a4 a5 n1 c1 n2 c2 n3 c3 n4 c4 n5 c5 c o r (upd γ 7 v) j=vH a1 a2 a3 a4 a5 n1 c1 n2 c2 n3 c3 n4 c4 n5 c5 c o r γ j:=fun j hj=>by
 match j,hj with
 | 0,_=>rfl
 | 1,_=>rfl
 | 2,_=>rfl
 | 3,_=>rfl
 | 4,_=>rfl
 | 5,_=>rfl
 | 6,_=>rfl
 | 7,hj=>exact absurd (by decide) hj
 | 8,_=>rfl
 | 9,_=>rfl
 | _+10,_=>rfl
theorem ar5 (a1 a2 a3 a4 a5:Option Addr) (n1 c1 n2 c2 n3 c3 n4 c4 n5 c5 c:Nat) (o r:Value) (γ:Gh) (v:Value):∀ j,j∉([8,9]:List Nat)->vH a1 a2 a3 a4 a5 n1 c1 n2 c2 n3 c3 n4 c4 n5 c5 c o r (upd γ 8 v) j=vH a1 a2 a3 a4 a5 n1 c1 n2 c2 n3 c3 n4 c4 n5 c5 c o r γ j:=fun j hj=>by
 match j,hj with
 | 0,_=>rfl
 | 1,_=>rfl
 | 2,_=>rfl
 | 3,_=>rfl
 | 4,_=>rfl
 | 5,_=>rfl
 | 6,_=>rfl
 | 7,_=>rfl
 | 8,hj=>exact absurd (by decide) hj
 | 9,hj=>exact absurd (by decide) hj
 | _+10,_=>rfl
theorem ar6 (v:Nat->Value) (t0 t1 t2 t3 t4 t5 t6 t7 t8 t9 t10 t11 t12 t13 t14 t15 t16 t17 t18 t19 t20 t21 t22 t23 t24 t25 t26 t27 t28 t29 t30 t31 t32 t33 t34 t35 t36 t37 t38 t39 t40 t41 t42 t43 t44 t45 t46 t47 t48 t49 t50 t51 t52 t53 t54 t55 t56 t57:Value):qh v (some 42 :: some 43 :: some 44 :: some 45 :: some 46 :: some 47 :: some 48 :: some 49 :: some 50 :: some 10 :: []) 0 (t0 :: t1 :: t2 :: t3 :: t4 :: t5 :: t6 :: t7 :: t8 :: t9 :: t10 :: t11 :: t12 :: t13 :: t14 :: t15 :: t16 :: t17 :: t18 :: t19 :: t20 :: t21 :: t22 :: t23 :: t24 :: t25 :: t26 :: t27 :: t28 :: t29 :: t30 :: t31 :: t32 :: t33 :: t34 :: t35 :: t36 :: t37 :: t38 :: t39 :: t40 :: t41 :: t42 :: t43 :: t44 :: t45 :: t46 :: t47 :: t48 :: t49 :: t50 :: t51 :: t52 :: t53 :: t54 :: t55 :: t56 :: t57 :: [])=(t0 :: t1 :: t2 :: t3 :: t4 :: t5 :: t6 :: t7 :: t8 :: t9 :: v 9 :: t11 :: t12 :: t13 :: t14 :: t15 :: t16 :: t17 :: t18 :: t19 :: t20 :: t21 :: t22 :: t23 :: t24 :: t25 :: t26 :: t27 :: t28 :: t29 :: t30 :: t31 :: t32 :: t33 :: t34 :: t35 :: t36 :: t37 :: t38 :: t39 :: t40 :: t41 :: v 0 :: v 1 :: v 2 :: v 3 :: v 4 :: v 5 :: v 6 :: v 7 :: v 8 :: t51 :: t52 :: t53 :: t54 :: t55 :: t56 :: t57 :: []):=by kernel_rfl
theorem kD.weak {w:World} {base base':Nat} {F:List Nat} {o:Value} {fs:List (List Nat)} (h:kD w base F o fs) (hb:base'<=base):kD w base' [] o fs where
 row:=by
  obtain ⟨rs,h1,h2,h3⟩:=h.row;exact ⟨rs,Jt h1 hb,h2,fun i r b hr hb=>⟨(h3 i r b hr hb).1,fun A n c e=>⟨by simp,((h3 i r b hr hb).2 A n c e).2⟩⟩⟩
 far:=fun g _=>by simp
structure jg (wr:World) (cc:Nat) (x:Xi.St) (l:List Nat) (F:List Nat) (base:Nat) (o:Value) (fs:List (List Nat)) (γ:Gh) (m:Nat) (w':World):Prop where
 aj:ah wr w' (F ++ o.ownBlock.toList)
 q4:m<=4->ah wr w' F
 q:m<=1->ah wr w' []
 s1:m=1->Sl w' (γ 4) (bI (l.map fun n:Nat=>(n:Int)))/\∀ A n c,γ 4=.slice (some A) n c->wr.heap.size<=A.block
 s2:2<=m->∃ F' s',Sub F' F wr/\FC w' cc (x.next l) s' F'/\OO s'/\(m=2->Sl w' (γ 5) (bI (((x.next l).frame (iq l)).map fun n:Nat=>(n:Int))))/\(3<=m->Sl w' (γ 6) (fJ ((x.next l).frame (iq l)))/\∀ A n c,γ 6=.slice (some A) n c->A.block∉F'/\A.block < w'.heap.size/\o.ownBlock≠some A.block)/\(m<=4->kD w' base F' o fs)/\(5<=m->kD w' base F' (γ 8) (fs ++ [(x.next l).frame (iq l)]))
 s4:m=4->∃ a,γ 7=.slice (some ⟨a,0,none⟩) 1 1/\aC w' a 29 [γ 6]
 s5:5<=m->∃ g c,γ 8=.slice (some ⟨g,0,none⟩) (fs.length+1) c
section
variable {wr w1 w2:World} {cc:Nat} {x:Xi.St} {l:List Nat} {F:List Nat} {base:Nat} {o:Value} {fs:List (List Nat)} {γ:Gh} {s:CS}
theorem X5:(Tryz.prog.info? 29).map (fun i=>(i.zero,i.size,i.bytes))=some (some (.slice none 0 0),1,24):=by kernel_rfl
theorem kD.keep {o:Value} {fs:List (List Nat)} (h:kD w1 base F o fs) (hc:ah w1 w2 []):kD w2 base F o fs:=h.aj (hc.more (by simp)) (Sub.refl _ _)
theorem jg.zero (hc:ah wr wr []):jg wr cc x l F base o fs γ 0 wr.drew where
 aj:=(ah.refl wr _).drew
 q4:=fun _=>(ah.refl wr F).drew
 q:=fun _=>(ah.refl wr []).drew
 s1:=fun h=>by cases h
 s2:=fun h=>absurd h (by omega)
 s4:=fun h=>by cases h
 s5:=fun h=>absurd h (by omega)
theorem jg.words (h:jg wr cc x l F base o fs γ 0 w1) {u:Value} (hc:ah w1 w2 []) (hu:Sl w2 u (bI (l.map fun n:Nat=>(n:Int)))) (hn:∀ A n c,u=.slice (some A) n c->w1.heap.size<=A.block):jg wr cc x l F base o fs (upd γ 4 u) 1 w2 where
 aj:=h.aj.trans hc (by simp)
 q4:=fun _=>(h.q4 (by omega)).trans hc (by simp)
 q:=fun _=>(h.q (by omega)).trans hc (by simp)
 s1:=fun _=>by
  rw [jE];exact ⟨hu,fun A n c e=>Nat.le_trans h.aj.size (hn A n c e)⟩
 s2:=fun h=>absurd h (by omega)
 s4:=fun h=>by cases h
 s5:=fun h=>absurd h (by omega)
theorem jg.again (h:jg wr cc x l F base o fs γ 1 w1) {u:Value} {F':List Nat} {s':CS} (ho:kD wr base F o fs) (hc:ah w1 w2 F) (hs:Sub F' F w1) (hk:FC w2 cc (x.next l) s' F') (hd:OO s') (hu:Sl w2 u (bI (((x.next l).frame (iq l)).map fun n:Nat=>(n:Int)))):jg wr cc x l F base o fs (upd γ 5 u) 2 w2 where
 aj:=h.aj.trans hc (fun k hk=>.inl (List.mem_append_left _ hk))
 q4:=fun _=>(h.q4 (by omega)).trans hc (fun k hk=>.inl hk)
 q:=fun h=>absurd h (by omega)
 s1:=fun h=>by cases h
 s2:=fun _=>⟨F',s',fun k hk=>(hs k hk).imp_right (fun e=>Nat.le_trans h.aj.size e),hk,hd,fun _=>by rw [jE]; exact hu,fun h=>absurd h (by omega),fun _=>(ho.keep (h.q (by omega))).aj hc hs,fun h=>absurd h (by omega)⟩
 s4:=fun h=>by cases h
 s5:=fun h=>absurd h (by omega)
theorem jg.bytes (h:jg wr cc x l F base o fs γ 2 w1) {u:Value} (hc:ah w1 w2 []) (hu:Sl w2 u (fJ ((x.next l).frame (iq l)))) (hn:∀ A n c,u=.slice (some A) n c->w1.heap.size<=A.block):jg wr cc x l F base o fs (upd γ 6 u) 3 w2 where
 aj:=h.aj.trans hc (by simp)
 q4:=fun _=>(h.q4 (by omega)).trans hc (by simp)
 q:=fun h=>absurd h (by omega)
 s1:=fun h=>by cases h
 s2:=fun _=>by
  obtain ⟨F',s',h1,h2,h3,_,_,h6,_⟩:=h.s2 (by omega);refine ⟨F',s',h1,h2.cO hc,h3,(fun h=>by cases h),fun _=>?_,fun _=>(h6 (by omega)).keep hc,fun h=>absurd h (by omega)⟩;rw [jE];refine ⟨hu,fun A n c e=>⟨fun hm=>?_,?_,fun ho=>?_⟩⟩
  . have:=h2.lt _ hm
    have:=hn A n c e;omega
  rotate_left
  . obtain ⟨rs,k1,_⟩:=(h6 (by omega)).row
    have:=(k1.lt _ ho).2;have:=hn A n c e;omega
  . subst e
    obtain ⟨b,off,e1,_,hlt⟩:=hu.at_ (k:=0) (List.getElem?_eq_getElem (by rw [jT,Xi.j_]; decide));injection e1 with e1;subst e1;exact hlt
 s4:=fun h=>by cases h
 s5:=fun h=>absurd h (by omega)
theorem jg.lit (h:jg wr cc x l F base o fs γ 3 w1) {A:Option Addr} {m cap:Nat} (hu:γ 6=.slice A m cap):jg wr cc x l F base o fs (upd γ 7 (.slice (some ⟨w1.heap.size,0,none⟩) 1 1)) 4 (w1.alloc (.cells #[.slice A m cap] 29)) where
 aj:=h.aj.alloc _
 q4:=fun _=>(h.q4 (by omega)).alloc _
 q:=fun h=>absurd h (by omega)
 s1:=fun h=>by cases h
 s2:=fun _=>by
  obtain ⟨F',s',h1,h2,h3,_,h5,h6,_⟩:=h.s2 (by omega);have hc:ah w1 (w1.alloc (.cells #[.slice A m cap] 29)) []:=(ah.refl w1 []).alloc _;refine ⟨F',s',h1,h2.cO hc,h3,(fun h=>by cases h),fun _=>?_,fun _=>(h6 (by omega)).keep hc,fun h=>absurd h (by omega)⟩;rw [upd_ne _ _ (by decide)];obtain ⟨k1,k2⟩:=h5 (by omega);exact ⟨k1.keep hc,fun A n c e=>⟨(k2 A n c e).1,Nat.lt_of_lt_of_le (k2 A n c e).2.1 hc.size,(k2 A n c e).2.2⟩⟩
 s4:=fun _=>⟨w1.heap.size,jE _ _ _,by rw [upd_ne _ _ (by decide),hu]; exact aC.new w1 29 [.slice A m cap]⟩
 s5:=fun h=>absurd h (by omega)
theorem jg.put (h:jg wr cc x l F base o fs γ 4 w1) (hl:fs.length<=1000) (hb:base<=w1.heap.size) (hQb:11<=base) {P:Program} {op:Oper} {av:Act} {K:Act->World->Prop} {Q:Exit->Act->World->Prop} (hP:P=Tryz.prog)
 (hgd:op.guard=none) (hop:op.op=.call { callee:=.builtin .append,args:=#[.tmp 42,.tmp 49],argTypes:=#[22,22] }) (h0:av.tmps.getD 42 undef=o) (h7:av.tmps.getD 49 undef=γ 7)
 (hK:∀ u w2,jg wr cc x l F base o fs (upd γ 8 u) 5 w2->K (av.put op.dst u) w2):Oper.wp P op av w1 K Q:=by
 subst hP;obtain ⟨F',s',h1,h2,h3,_,h5,h6,_⟩:=h.s2 (by omega);obtain ⟨k1,k2⟩:=h5 (by omega);have ho:=h6 (by omega);obtain ⟨a,h7',hba⟩:=h.s4 rfl;obtain ⟨rs,hown,hrl,hrs⟩:=ho.row;obtain ⟨i0,hi0,hz0,hz1,hz2⟩:=info_parts X5;obtain ⟨A6,c6,e6,_⟩:=id k1;have h42:av.eval (.tmp 42)=o:=h0;have h49:av.eval (.tmp 49)=.slice (some ⟨a,0,none⟩) 1 1:=by rw [<- h7']; exact h7
 refine wp_append_lies w1 (.tmp 42) (.tmp 49) 22 hop base 29 i0 (.slice none 0 0) 1 24 Tryz.underlying22 hi0 hz0 hz1 hz2 rfl (by decide) o rs.length rs h42 hown ⟨a,0,none⟩ 1 1 [γ 6] h49 rfl (fun j u hj=>?_) (fun u hu=>?_) (by decide) (by unfold maxLen; omega) (by omega) hb _ rfl ?_
 . match j,hj with
   | 0,hj=>obtain rfl:γ 6=u:=(by simpa using hj); rw [add_plain,Nat.zero_add]; exact hba.cell' (i:=0) rfl
 . simp only [List.mem_singleton] at hu
   subst hu;rw [e6];rfl
 . rintro g cap w2 hown2 hgr hg hgl
   have hc:ah w1 w2 o.ownBlock.toList:=ah.eF hgr (fun k hk=>.inl (by simp [hk]));have hlow:∀ k∈o.ownBlock.toList,base<=k/\k < w1.heap.size:=fun k hk=>hown.lt k (Option.mem_toList.1 hk);have hFo:∀ k∈F',k∉o.ownBlock.toList:=fun k hk hm=>ho.far k (Option.mem_toList.1 hm) hk
   have awp:∀ A:Addr,A.block < w1.heap.size->o.ownBlock≠some A.block->A.block≠g:=fun A ha hn e=>by
    rcases hg with h | h
    . exact hn (by rw [h,e])
    . omega
   have hgF:g∉F':=fun hm=>by
    rcases hg with h | h
    . exact ho.far g h hm
    . have:=h2.lt g hm
      omega
   refine hK _ w2 ⟨h.aj.trans hc (fun k hk=>.inl (List.mem_append_right _ hk)),fun h=>absurd h (by omega),fun h=>absurd h (by omega),(fun h=>by cases h),fun _=>⟨F',s',h1,h2.aj hc hFo (fun k hk=>?_),h3,(fun h=>by cases h),fun _=>?_,fun h=>absurd h (by omega),fun _=>⟨⟨rs ++ [γ 6],?_,?_,fun i r b hr hb=>?_⟩,fun g' hg'=>?_⟩⟩,(fun h=>by cases h),fun _=>⟨g,cap,?_⟩⟩
   . have:=hlow k hk
     omega
   . rw [upd_ne _ _ (by decide)]
     refine ⟨k1.aj hc (fun A n c e hm=>(k2 A n c e).2.2 (Option.mem_toList.1 hm)),fun A n c e=>⟨(k2 A n c e).1,Nat.lt_of_lt_of_le (k2 A n c e).2.1 hc.size,(k2 A n c e).2.2⟩⟩
   . rw [jE]
     simpa using hown2
   . simp [hrl]
   . rw [jE]
     have hlast:∀ A n c,r=.slice (some A) n c->A.block∉F'/\A.block < w1.heap.size/\o.ownBlock≠some A.block->A.block∉F'/\A.block < w2.heap.size/\(Value.slice (some ⟨g,0,none⟩) (rs.length+1) cap).ownBlock≠some A.block:=fun A n c e hh=>⟨hh.1,Nat.lt_of_lt_of_le hh.2.1 hc.size,fun e2=>by
      simp [Value.ownBlock] at e2
      exact awp A hh.2.1 hh.2.2 e2.symm⟩
     by_cases hi:i < rs.length
     . rw [List.getElem?_append_left hi] at hr
       rw [List.getElem?_append_left (by omega)] at hb;obtain ⟨q1,q2⟩:=hrs i r b hr hb;exact ⟨q1.aj hc (fun A n c e hm=>(q2 A n c e).2.2 (Option.mem_toList.1 hm)),fun A n c e=>hlast A n c e (q2 A n c e)⟩
     . have hi2 : i=rs.length := by
        have:=(List.getElem?_eq_some_iff.1 hr).1;simp at this;omega
       subst hi2;rw [List.getElem?_append_right (Nat.le_refl _),Nat.sub_self] at hr;rw [hrl,List.getElem?_append_right (Nat.le_refl _),Nat.sub_self] at hb;injection hr with hr;injection hb with hb;subst hr hb;exact ⟨k1.aj hc (fun A n c e hm=>(k2 A n c e).2.2 (Option.mem_toList.1 hm)),fun A n c e=>hlast A n c e (k2 A n c e)⟩
   . rw [jE] at hg'
     simp [Value.ownBlock] at hg';subst hg';exact hgF
   . rw [jE,hrl]
end
theorem OU {w:World} (hg:qg w) {v:Value} {ls:List (List Nat)} (h:Rows w v ls) (h20:∀ b∈ls,b.length=20) (hb:∀ b∈ls,∀ y∈b,y < 256) (hl:ls.length<=12) :
 Calls Tryz.prog 11 #[v] w fun e w'=>∃ u,e=.returned (.tuple #[u,.int .i64 ((ls.length:Int) * gJ bW),.int .i64 0])/\ah w w' []/\kD w' w.heap.size [] u (dV st0 ls):=by
 have fH:=hide (show Tryz.prog.follows .mixedOrders=true by kernel_rfl);obtain ⟨A,cv,rfl,hx⟩:=h.open_;have HX:=hide hx;have HG:=hide hg;have H20:=hide h20;have HB:=hide hb;have hi:=(FH w hg).mono (R':=fun e w'=>∃ v,e=.returned v/\ah w w' []/\Bl w' v) (fun e w' ⟨v,h1,h2,h3,_⟩=>⟨v,h1,h2,h3⟩);clear h hx hg h20 hb;go_enter Tryz.func11,Tryz.ntmps11
 go_wp2_with fail
 go_loopw [6,16] (fun _ i wr=>∃ j:Nat,j<=ls.length/\i=.int .i64 j/\w=wr) (fun _ i _=>ls.length - (intOf i).toNat)
 case atStart=>exact ⟨0,Nat.zero_le _,rfl,rfl⟩
 case round =>
  obtain ⟨j,hj,rfl,rfl⟩:=hrel;by_cases hlt:j < ls.length
  . obtain ⟨b,hjb⟩:∃ b,ls[j]?=some b:=⟨ls[j],by simp [hlt]⟩
    obtain ⟨bb,off,B,cb,rfl,hc,hs⟩:=HX.out j b hjb;have t20:=H20.out b (List.mem_of_getElem? hjb);rw [t20] at hc;clear hs hjb;go_wp2;go_roundw
    case rel=>exact ⟨j+1,by omega,by go_num,by first | rfl | trivial⟩
    case measure=>simp [intOf]; omega
  . have hjl:j=ls.length:=by omega
    clear hlt hj;subst hjl;go_wp2_with fail
    go_at_call 22;refine hi.mono ?_;rintro e w1 ⟨vi,rfl,hc1,him⟩;clear hi;obtain ⟨v1,v2,v3,v4,v5,rfl,g1,g2,g3,g4,g5⟩:=id him;obtain ⟨a1,c1,rfl,_⟩:=id g1;obtain ⟨a2,c2,rfl,_⟩:=id g2;obtain ⟨a3,c3,rfl,_⟩:=id g3;obtain ⟨a4,c4,rfl,_⟩:=id g4;obtain ⟨a5,c5,rfl,_⟩:=id g5;generalize (jo ((wordsOf aK 2921).map fun w:Nat=>(w:Int))).length=n1 at *;generalize (bI fF).length=n2 at *;generalize (bools jQ).length=n3 at *;generalize (ints [0,1,2,3,4,5,6,7,8,9,10,11,12,13,14,15,16,17,18,19]).length=n4 at *;generalize (ints bG).length=n5 at *;have hcA:ah w1 (w1.alloc (.cells #[.slice a1 n1 c1,.slice a2 n2 c2,.slice a3 n3 c3,.slice a4 n4 c4,.slice a5 n5 c5] 66)) []:=(ah.refl w1 []).alloc _;have hgA:=HG.out.aj (hc1.trans hcA (by simp)) (by simp);have hnew:=OQ hgA (g1.keep hcA) (g2.keep hcA);have hbl:=aC.new w1 66 [.slice a1 n1 c1,.slice a2 n2 c2,.slice a3 n3 c3,.slice a4 n4 c4,.slice a5 n5 c5];have Du:=JD him;have X6:=hide (him.keep hcA);have Qo:=hide Du;have yJ:=hide hbl;have dG:=hide (show ah w (w1.alloc (.cells #[.slice a1 n1 c1,.slice a2 n2 c2,.slice a3 n3 c3,.slice a4 n4 c4,.slice a5 n5 c5] 66)) [] from hc1.trans hcA (by simp));have RJ:(w1.alloc (.cells #[.slice a1 n1 c1,.slice a2 n2 c2,.slice a3 n3 c3,.slice a4 n4 c4,.slice a5 n5 c5] 66)).heap.size=w1.heap.size+1:=size_alloc _ _;have X7:=hide RJ;clear hc1 hcA hgA him g1 g2 g3 g4 g5 hbl Du RJ;go_wp2_with fail
    go_at_call 23;refine hnew.mono ?_;rintro e w2 ⟨cc,F0,rfl,hc2,hfc,hF0⟩;have DU:=hide (show ∀ k∈F0,w1.heap.size < k/\w.heap.size<=k from fun k hk=>by have:=hF0 k hk; have:=X7.out; have:=dG.out.size; omega);have Qp:=hide hfc;have HC2:=hide (dG.out.trans hc2 (by simp));have ar7:=hide (yJ.out.aj hc2 (by simp));have ajW:=hide (X6.out.keep hc2);clear hnew hc2 hfc hF0 X6 yJ dG;generalize hP7:w1.heap.size=P7 at *;have awq:=hide (show 11<=w2.heap.size from Nat.le_trans HG.out.size HC2.out.size);obtain ⟨κ,hκ⟩:∃ κ,gJ bW=κ:=⟨_,rfl⟩
    have HK:=hide (show 0<=κ/\κ<=100000 from hκ ▸ J7);have Hκ:=hide hκ;clear hκ
    have ar8:=hide (show ∀ k∈yC (.agg #[.slice a1 n1 c1,.slice a2 n2 c2,.slice a3 n3 c3,.slice a4 n4 c4,.slice a5 n5 c5]),k∉F0 from fun k hk hm=>by
     have:=Qo.out k hk;have:=DU.out k hm
     omega)
    have Rf:=hide (show P7∉F0/\P7 < w2.heap.size from ⟨fun hm=>by have:=DU.out _ hm; omega,ar7.out.lt⟩);go_wp2_with fail
    go_loopw [10,11,13,38] (fun o cst _ i wr=>∃ j:Nat,j<=ls.length/\i=.int .i64 j/\cst=.int .i64 ((j:Int) * κ)/\Hid (ah w2 wr F0)/\Hid (∃ F s,Sub F F0 w2/\FC wr cc (gZ st0 (ls.take j)) s F)/\Hid (∃ F,(∃ s,FC wr cc (gZ st0 (ls.take j)) s F)/\Sub F F0 w2/\kD wr w2.heap.size F o (dV st0 (ls.take j)))) (fun _ _ _ i _=>ls.length - (intOf i).toNat)
    case atStart=>exact ⟨0,Nat.zero_le _,rfl,by simp,hide (ah.refl _ _),hide ⟨F0,_,Sub.refl _ _,Qp.out⟩,hide ⟨F0,⟨_,Qp.out⟩,Sub.refl _ _,⟨⟨[],World.ownsRow_nil _ _ _ _,rfl,fun i r b h=>by simp at h⟩,fun g h=>by simp [Value.ownBlock] at h⟩⟩⟩
    case round =>
     clear Qp;obtain ⟨o,hou⟩:∃ o,o=u10:=⟨_,rfl⟩
     subst hou;obtain ⟨j,hj,rfl,rfl,HC,_,HO0⟩:=hrel;obtain ⟨F,⟨s,hfc⟩,hsF,ho⟩:=HO0.out;have hcw:ah w wr []:=HC2.out.trans HC.out (fun k hk=>.inr (DU.out k hk).2);by_cases hlt:j < ls.length
     . obtain ⟨b,hjb⟩:∃ b,ls[j]?=some b:=⟨ls[j],by simp [hlt]⟩
       obtain ⟨bb,off,B,cb,rfl,hcl,hsl⟩:=HX.out j b hjb;have hcl':=hcw.cell hcl (by simp);have HSB:=hide (hsl.keep hcw);have HGr:=hide (HG.out.aj hcw (by simp));have awr:=hide (H20.out b (List.mem_of_getElem? hjb));have HBB:=hide (HB.out b (List.mem_of_getElem? hjb));have hst:gZ st0 (ls.take (j+1))=(gZ st0 (ls.take j)).next b:=by rw [List.take_add_one,hjb]; exact Dt _ _ _
       have hfr:dV st0 (ls.take (j+1))=dV st0 (ls.take j) ++ [((gZ st0 (ls.take j)).next b).frame (iq b)]:=by rw [List.take_add_one,hjb]; exact Bo _ _ _
       have HST:=hide hst;have ajX:=hide hfr;have HXR:=hide (Bq CO (ls.take j));have hfl:=xk st0 (ls.take j);have ZA:=hide (show (dV st0 (ls.take j)).length<=1000 from by rw [hfl]; simp; omega);have Gj:=hide (show (dV st0 (ls.take j)).length=j from by rw [hfl]; simp; omega);clear hst hfr hfl hjb hcl hsl HO0;generalize gZ st0 (ls.take j)=x at *;generalize dV st0 (ls.take j)=fs at *;have hbr:aC wr P7 66 [.slice a1 n1 c1,.slice a2 n2 c2,.slice a3 n3 c3,.slice a4 n4 c4,.slice a5 n5 c5]:=ar7.out.aj HC.out Rf.out.1;have HP0:=hide (hbr.cell' (i:=0) rfl);have dI:=hide (hbr.cell' (i:=1) rfl);have HP2:=hide (hbr.cell' (i:=2) rfl);have Nc:=hide (hbr.cell' (i:=3) rfl);have BL:=hide (hbr.cell' (i:=4) rfl)
       have hPF:P7∉F:=fun hm=>by
        rcases hsF _ hm with h | h
        . exact Rf.out.1 h
        . have:=Rf.out.2
          omega
       have Vd:=hide (show P7∉F ++ o.ownBlock.toList from fun hm=>by
        rcases List.mem_append.1 hm with h | h
        . exact hPF h
        . obtain ⟨rs,hown,_⟩:=ho.row
          have:=(hown.lt P7 (Option.mem_toList.1 h)).1;have:=Rf.out.2
          omega)
       have Oa:=hide (show Bl wr (.agg #[.slice a1 n1 c1,.slice a2 n2 c2,.slice a3 n3 c3,.slice a4 n4 c4,.slice a5 n5 c5]) from X3 ajW.out HC.out ar8.out)
       have HIF:=hide (show ∀ k∈yC (.agg #[.slice a1 n1 c1,.slice a2 n2 c2,.slice a3 n3 c3,.slice a4 n4 c4,.slice a5 n5 c5]),k∉F from fun k hk hm=>by
        rcases hsF k hm with h | h
        . exact ar8.out k hk h
        . have:=Qo.out k hk
          have:=Rf.out.2
          omega)
       have HFC:=hide hfc;have HO:=hide ho;have HSF:=hide hsF;have HCR:=hide hcw;have HBZ:=hide (show w2.heap.size<=wr.heap.size from HC.out.size);have HG:=HGr;have HQB:=awq;clear hbr hPF hfc ho hsF hcw;generalize hbs:w2.heap.size=base at *;have yJ:=awr;go_wp2_with fail
       go_upto_region 16 with (fail)
       refine jD fH.out _ _ (fun γ=>vH a1 a2 a3 a4 a5 n1 c1 n2 c2 n3 c3 n4 c4 n5 c5 cc o (.slice B b.length cb) γ) (fun (γ:Gh) L w'=>jg wr cc x b F base o fs γ (aP L [4,5,6,7,8]) w') (fun _=>undef) (by kernel_rfl) [] (by kernel_rfl) (fun p hp γ=>by simp at hp) (by kernel_rfl) ?step ?start ?fin ?ext
       case start=>exact jg.zero (ah.refl _ _)
       case ext =>
        intro γ L L' w' h hw;have e:aP L [4,5,6,7,8]=aP L' [4,5,6,7,8]:=Fz fun x hx=>h x (by simp at hx; rcases hx with rfl | rfl | rfl | rfl | rfl<;>decide);have hw':jg wr cc x b F base o fs γ (aP L [4,5,6,7,8]) w':=hw;rw [e] at hw';exact hw'
       case step =>
        intro i o_ ho_ L av w1 γ hdn ak hW hL hpre K' Q' hK
        match i,ho_ with
        | 0,ho =>
         injection ho with ho; subst ho;have b10:av.tmps.getD 10 undef=o:=slN ak 10 9 (by kernel_rfl) (by cases h:L 9 with | false=>rfl | true=>(have hx:L 0=true:=hdn 9 _ rfl h ⟨0,.phase⟩ (by simp) rfl; rw [hL] at hx; cases hx));clear ak;refine ay ?_ (hK γ w1 (fun _ _=>rfl) (show jg wr cc x b F base o fs γ (aP _ [4,5,6,7,8]) w1 from by rw [gI (by decide)]; exact hW)); go_simp; rfl
        | 1,ho =>
         injection ho with ho; subst ho;have b8:av.tmps.getD 8 undef=.pointer (some ⟨cc,0,none⟩):=iL ak 8 (by kernel_rfl);clear ak;refine ay ?_ (hK γ w1 (fun _ _=>rfl) (show jg wr cc x b F base o fs γ (aP _ [4,5,6,7,8]) w1 from by rw [gI (by decide)]; exact hW)); go_simp; rfl
        | 2,ho =>
         injection ho with ho; subst ho;have b7:av.tmps.getD 7 undef=.pointer (some ⟨P7,0,none⟩):=iL ak 7 (by kernel_rfl);clear ak;have y0:=hW.aj.cell HP0.out Vd.out;have y1:=hW.aj.cell dI.out Vd.out;have y2:=hW.aj.cell HP2.out Vd.out;have y3:=hW.aj.cell Nc.out Vd.out;have y4:=hW.aj.cell BL.out Vd.out;refine ay ?_ (hK γ w1 (fun _ _=>rfl) (show jg wr cc x b F base o fs γ (aP _ [4,5,6,7,8]) w1 from by rw [gI (by decide)]; exact hW)); go_simp; rfl
        | 3,ho =>
         injection ho with ho; subst ho;have b13:av.tmps.getD 13 undef=.slice B b.length cb:=iL ak 13 (by kernel_rfl);clear ak;refine ay ?_ (hK γ w1 (fun _ _=>rfl) (show jg wr cc x b F base o fs γ (aP _ [4,5,6,7,8]) w1 from by rw [gI (by decide)]; exact hW)); go_simp; rfl
        | 4,ho =>
         injection ho with ho; subst ho;have s3:=aO ak 45 3 (by kernel_rfl) (hpre ⟨3,.data⟩ (by simp) rfl);simp only [vH] at s3;clear ak
         have nn5:L 5=false:=by
          cases h:L 5 with
          | false=>rfl
          | true=>have hx:L 4=true:=hdn 5 _ rfl h ⟨4,.data⟩ (by simp) rfl; rw [hL] at hx; cases hx
         have hS:jg wr cc x b F base o fs γ 0 w1:=by
          have h:jg wr cc x b F base o fs γ (aP L [4,5,6,7,8]) w1:=hW;rwa [show aP L [4,5,6,7,8]=0 by simp [aP,hL]] at h
         have hm:aP (fun e=>if e=4 then true else L e) [4,5,6,7,8]=1:=by simp [aP,nn5]
         refine iZ (f:=35) (args:=#[.slice B b.length cb]) ?_ (WM (HSB.out.keep (hS.q (by omega))) HBB.out (by rw [yJ.out]; decide)) ?_
         . go_simp
         . rintro e w2 ⟨u,rfl,hc,hu,hn⟩
           exact ⟨_,rfl,hK (upd γ 4 u) w2 (mZ hdn [4] (by kernel_rfl) hL (ar0 a1 a2 a3 a4 a5 n1 c1 n2 c2 n3 c3 n4 c4 n5 c5 cc o (.slice B b.length cb) γ _)) (show jg wr cc x b F base o fs _ (aP _ [4,5,6,7,8]) _ from by rw [hm]; exact hS.words hc hu hn)⟩
        | 5,ho =>
         injection ho with ho; subst ho;have s1:=aO ak 43 1 (by kernel_rfl) (hpre ⟨1,.data⟩ (by simp) rfl);have s2:=aO ak 44 2 (by kernel_rfl) (hpre ⟨2,.data⟩ (by simp) rfl);have l4:=hpre ⟨4,.data⟩ (by simp) rfl;have s4:=aO ak 46 4 (by kernel_rfl) l4;simp only [vH] at s1 s2 s4;clear ak;have l4:L 4=true:=hpre ⟨4,.data⟩ (by simp) rfl
         have nn6:L 6=false:=by
          cases h:L 6 with
          | false=>rfl
          | true=>have hx:L 5=true:=hdn 6 _ rfl h ⟨5,.data⟩ (by simp) rfl; rw [hL] at hx; cases hx
         have hS:jg wr cc x b F base o fs γ 1 w1:=by
          have h:jg wr cc x b F base o fs γ (aP L [4,5,6,7,8]) w1:=hW;rwa [show aP L [4,5,6,7,8]=1 by simp [aP,hL,l4]] at h
         have hm:aP (fun e=>if e=5 then true else L e) [4,5,6,7,8]=2:=by simp [aP,l4,nn6]
         obtain ⟨hu1,hu2⟩:=hS.s1 rfl
         refine iZ (f:=34) (args:=#[.pointer (some ⟨cc,0,none⟩),.agg #[.slice a1 n1 c1,.slice a2 n2 c2,.slice a3 n3 c3,.slice a4 n4 c4,.slice a5 n5 c5],γ 4]) ?_ (X4 (HG.out.aj (hS.q (by omega)) (by simp)) (HFC.out.cO (hS.q (by omega))) HXR.out (Oa.out.keep (hS.q (by omega))) HIF.out yJ.out HBB.out hu1 (fun k hk hm=>by
          cases hg4:γ 4 with
          | slice A n c=>rw [hg4] at hk; cases A with
           | none=>cases hk
           | some ad =>
            obtain ⟨bk,ofs,sp⟩:=ad
            cases sp with
            | none=>have hk:bk=k:=Option.some.inj hk; have h1:=hu2 _ n c hg4; have h2:=HFC.out.lt k hm; have h1:wr.heap.size<=bk:=h1; omega
            | some _=>cases hk
          | _=>rw [hg4] at hk; cases hk)) ?_
         . go_simp
         . rintro e w2 ⟨u,F',s',rfl,hc,hs,hk,hd,ho⟩
           exact ⟨_,rfl,hK (upd γ 5 u) w2 (mZ hdn [5] (by kernel_rfl) hL (ar1 a1 a2 a3 a4 a5 n1 c1 n2 c2 n3 c3 n4 c4 n5 c5 cc o (.slice B b.length cb) γ _)) (show jg wr cc x b F base o fs _ (aP _ [4,5,6,7,8]) _ from by rw [hm]; exact hS.again HO.out hc hs hk hd (Sl.own ho))⟩
        | 6,ho =>
         injection ho with ho; subst ho;have l5:=hpre ⟨5,.data⟩ (by simp) rfl;have s5:=aO ak 47 5 (by kernel_rfl) l5;simp only [vH] at s5;clear ak;have l5:L 5=true:=hpre ⟨5,.data⟩ (by simp) rfl;have l4:L 4=true:=hdn 5 _ rfl l5 ⟨4,.data⟩ (by simp) rfl
         have nn7:L 7=false:=by
          cases h:L 7 with
          | false=>rfl
          | true=>have hx:L 6=true:=hdn 7 _ rfl h ⟨6,.data⟩ (by simp) rfl; rw [hL] at hx; cases hx
         have hS:jg wr cc x b F base o fs γ 2 w1:=by
          have h:jg wr cc x b F base o fs γ (aP L [4,5,6,7,8]) w1:=hW;rwa [show aP L [4,5,6,7,8]=2 by simp [aP,hL,l4,l5]] at h
         have hm:aP (fun e=>if e=6 then true else L e) [4,5,6,7,8]=3:=by simp [aP,l4,l5,nn7]
         obtain ⟨F',s',_,_,_,hu5,_⟩:=hS.s2 (by omega);refine iZ (f:=33) (args:=#[γ 5]) ?_ (WO (hu5 rfl) (Xi.wM (x.next b) (Xi.Bj b)) (by rw [Xi.j_]; decide)) ?_
         . go_simp
         . rintro e w2 ⟨u,rfl,hc,hu,hn⟩
           exact ⟨_,rfl,hK (upd γ 6 u) w2 (mZ hdn [6] (by kernel_rfl) hL (ar2 a1 a2 a3 a4 a5 n1 c1 n2 c2 n3 c3 n4 c4 n5 c5 cc o (.slice B b.length cb) γ _)) (show jg wr cc x b F base o fs _ (aP _ [4,5,6,7,8]) _ from by rw [hm]; exact hS.bytes hc hu hn)⟩
        | 7,ho =>
         injection ho with ho; subst ho;have l6:=hpre ⟨6,.data⟩ (by simp) rfl;have s6:=aO ak 48 6 (by kernel_rfl) l6;simp only [vH] at s6;clear ak;have l6:L 6=true:=hpre ⟨6,.data⟩ (by simp) rfl;have l5:L 5=true:=hdn 6 _ rfl l6 ⟨5,.data⟩ (by simp) rfl;have l4:L 4=true:=hdn 5 _ rfl l5 ⟨4,.data⟩ (by simp) rfl
         have nn8:L 8=false:=by
          cases h:L 8 with
          | false=>rfl
          | true=>have hx:L 7=true:=hdn 8 _ rfl h ⟨7,.data⟩ (by simp) rfl; rw [hL] at hx; cases hx
         have hS:jg wr cc x b F base o fs γ 3 w1:=by
          have h:jg wr cc x b F base o fs γ (aP L [4,5,6,7,8]) w1:=hW;rwa [show aP L [4,5,6,7,8]=3 by simp [aP,hL,l4,l5,l6]] at h
         have hm:aP (fun e=>if e=7 then true else L e) [4,5,6,7,8]=4:=by simp [aP,l4,l5,l6,nn8]
         obtain ⟨F',s',_,_,_,_,hu6,_⟩:=hS.s2 (by omega);obtain ⟨A6,c6,e6,_⟩:=id (hu6 (by omega)).1;have hS7:=hS.lit e6;rw [e6] at s6;have s6':=s6;rw [Array.getD_eq_getD_getElem?] at s6';refine ay (v:=.slice (some ⟨w1.heap.size,0,none⟩) 1 1) (w':=w1.alloc (.cells #[.slice A6 (fJ ((x.next b).frame (iq b))).length c6] 29)) ?_ (hK (upd γ 7 (.slice (some ⟨w1.heap.size,0,none⟩) 1 1)) _ (mZ hdn [7] (by kernel_rfl) hL (ar4 a1 a2 a3 a4 a5 n1 c1 n2 c2 n3 c3 n4 c4 n5 c5 cc o (.slice B b.length cb) γ _)) (show jg wr cc x b F base o fs _ (aP _ [4,5,6,7,8]) _ from by rw [hm]; exact hS7));go_simp
        | 8,ho =>
         injection ho with ho; subst ho;have s0:=aO ak 42 0 (by kernel_rfl) (hpre ⟨0,.data⟩ (by simp) rfl);have l7:=hpre ⟨7,.data⟩ (by simp) rfl;have s7:=aO ak 49 7 (by kernel_rfl) l7;simp only [vH] at s0 s7;clear ak;have l7:L 7=true:=hpre ⟨7,.data⟩ (by simp) rfl;have l6:L 6=true:=hdn 7 _ rfl l7 ⟨6,.data⟩ (by simp) rfl;have l5:L 5=true:=hdn 6 _ rfl l6 ⟨5,.data⟩ (by simp) rfl;have l4:L 4=true:=hdn 5 _ rfl l5 ⟨4,.data⟩ (by simp) rfl
         have hS:jg wr cc x b F base o fs γ 4 w1:=by
          have h:jg wr cc x b F base o fs γ (aP L [4,5,6,7,8]) w1:=hW;rwa [show aP L [4,5,6,7,8]=4 by simp [aP,hL,l4,l5,l6,l7]] at h
         have hm:aP (fun e=>if e=8 then true else L e) [4,5,6,7,8]=5:=by simp [aP,l4,l5,l6,l7]
         exact hS.put ZA.out (Nat.le_trans HBZ.out hS.aj.size) HQB.out rfl rfl rfl s0 s7 (fun u w2 h=>hK (upd γ 8 u) w2 (mZ hdn [8,9] (by kernel_rfl) hL (ar5 a1 a2 a3 a4 a5 n1 c1 n2 c2 n3 c3 n4 c4 n5 c5 cc o (.slice B b.length cb) γ _)) (show jg wr cc x b F base o fs _ (aP _ [4,5,6,7,8]) _ from by rw [hm]; exact h))
        | 9,ho =>
         injection ho with ho; subst ho;have s8:=aO ak 50 8 (by kernel_rfl) (hpre ⟨8,.data⟩ (by simp) rfl);simp only [vH] at s8;clear ak;refine ay ?_ (hK γ w1 (fun _ _=>rfl) (show jg wr cc x b F base o fs γ (aP _ [4,5,6,7,8]) w1 from by rw [gI (by decide)]; exact hW)); go_simp; rfl
        | _+10,ho=>cases ho
       case fin =>
       intro γ w5 hW;have hW:jg wr cc x b F base o fs γ 5 w5:=hW;obtain ⟨F',s',hs1,hfc',hd,_,_,_,hout⟩:=hW.s2 (by omega);obtain ⟨g8,c8,e8⟩:=hW.s5 (by omega);have hout:=hout (by omega);have hcy:∃ mem,fK w5 cc (wordsOf aK 2921) s' (mem.map (·.v)) F'/\Dk (s7 (x.next b)) mem:=hfc'
       obtain ⟨mem,hcore,_⟩:=hcy;have ajY:=Gq hcore;rw [hd.2.2] at ajY;have HCY:=hide ajY
       have ig:=hide (show ah w2 w5 F0 from HC.out.trans hW.aj (fun k hk=>by
        rcases List.mem_append.1 hk with h | h
        . exact (HSF.out k h).imp_right fun e=>by omega
        . obtain ⟨rs,hown,_⟩:=HO.out.row
          have:=(hown.lt k (Option.mem_toList.1 h)).1
          exact .inr (by omega)))
       have su:=hide (show Sub F' F0 w2 from fun k hk=>by
        rcases hs1 k hk with h | h
        . exact (HSF.out k h).imp_right fun e=>by omega
        . exact .inr (by have:=HBZ.out; omega))
       have ar9:=hide hfc';have uP:=hide hout;clear hW hs1 hfc' hd hout hcore ajY;rw [jX,iy,jH];simp only [List.map_cons,List.map_nil];rw [ar6];simp only [vH];rw [e8] at uP ⊢;clear e8;have hmul:((j+1:Nat):Int) * κ=(j:Int) * κ+κ:=by push_cast; rw [Int.add_mul,Int.one_mul]
       have hm0:0<=(j:Int) * κ:=Int.mul_nonneg (by omega) HK.out.1;have hm1:(j:Int) * κ<=12 * 100000:=Int.mul_le_mul (by omega) HK.out.2 HK.out.1 (by omega);have ajZ:=hide hmul;have hk0:=HK.out;clear hmul;generalize (j:Int) * κ=m at *;have hwr:wrap64 (m+κ)=m+κ:=by unfold wrap64; omega
       go_wp2_with fail
       go_at_call 36;refine HCY.out.mono ?_;rintro e w6 ⟨rfl,rfl⟩;clear HCY;go_wp2;go_roundw
       case rel=>exact ⟨j+1,by omega,by go_num,by rw [ajZ.out,Hκ.out,hwr],ig,hide ⟨F',s',by rw [hbs] at *; exact su.out,by rw [HST.out]; exact ar9.out⟩,hide ⟨F',⟨s',by rw [HST.out]; exact ar9.out⟩,su.out,by rw [ajX.out]; exact uP.out⟩⟩
       case measure=>simp [intOf]; omega
     . have hjl:j=ls.length:=by omega
       subst hjl;rw [List.take_length] at ho;have HOF:=hide (ho.weak (base':=w.heap.size) HC2.out.size);have HCF:=hide hcw;clear ho hcw hfc hsF HO0;go_wp2;go_ret3;exact ⟨_,by rw [Hκ.out]; rfl,HCF.out,HOF.out⟩
end

section
open Go Go.RowKit Go.Deep Go.Maps Ab Xi
attribute [local go_sem] Oper.semAt_some
theorem Qq (w:World):Calls Tryz.prog 24 #[] w fun e w'=>e=.returned (.agg #[.int .i32 1073741824,.int .i32 0,.int .i32 0,.int .i32 0,.int .i64 0,.int .i64 0,.int .i64 0])/\ah w w' []:=by
 have h:bJ (dn [] [] []) (bg []) 200 24 [] []=some (.agg #[.int .i32 1073741824,.int .i32 0,.int .i32 0,.int .i32 0,.int .i64 0,.int .i64 0,.int .i64 0],[]):=by kernel_rfl
 exact aG _ h (fun v hv=>by cases hv) (fun ob hob=>by cases hob) w
theorem alm {w:World} {A:Addr} {n c:Nat} {xs:List Value} (h:Sl w (.slice (some A) n c) xs) (hx:0 < xs.length):A.block < w.heap.size:=by
 obtain ⟨b,off,e,_,hb⟩:=h.at_ (k:=0) (u:=xs[0]'hx) (by simp);injection e with e;rw [e];exact hb
theorem agN {x:Xi.St} (hr:x.right) {xs:List Nat} (hl:xs.length=20) (hx:∀ y∈xs,y < 256) {v:Value} (w:World) (hw:ug w) (hv:Sl w v (fJ xs)) :
 Calls Tryz.prog 25 #[x.val,v] w fun e w'=>∃ A n c,e=.returned (.tuple #[(x.next xs).val,.slice (some A) n c,.int .i64 0])/\Sl w' (.slice (some A) n c) (fJ ((x.next xs).frame (iq xs)))/\w.heap.size<=A.block/\ah w w' []:=by
 refine (agM hr hl hx w hw (List.range w.heap.size) (fun k hk=>List.mem_range.1 hk) hv).mono ?_;rintro e w' ⟨⟨sv,rfl,hs,hD⟩,hc⟩;obtain ⟨A,c,rfl,_⟩:=id hs;obtain ⟨b,off,rfl,_,_⟩:=hs.at_ (k:=0) (List.getElem?_eq_getElem (by rw [jT,Xi.j_]; decide));exact ⟨_,_,_,rfl,hs,by have:=hD _ _ _ rfl; rw [List.mem_range] at this; omega,hc⟩
def OV (y:Xi.St) (fr:List Nat):wG:=fun γ m w F=>match m with
 | 0=>F=[]
 | _+1=>∃ A n c,γ 5=.tuple #[y.val,.slice (some A) n c,.int .i64 0]/\Sl w (.slice (some A) n c) (fJ fr)/\F=[A.block]
theorem OV.aiI (y:Xi.St) (fr:List Nat):PZ (OV y fr):=fun γ m w w' F D ho hc hF hD=>by
 rcases m with _ | m
 . exact ho
 . obtain ⟨A,n,c,h1,h2,rfl⟩:=ho
   exact ⟨A,n,c,h1,h2.aj hc (fun A' n' c' e=>by injection e with e; injection e with e; subst e; exact hF _ (by simp)),rfl⟩
theorem kD.own {w:World} {base:Nat} {F F':List Nat} {o:Value} {fs:List (List Nat)} (h:kD w base F o fs) (hs:∀ k∈F',k∈F):kD w base F' o fs:=h.aj (ah.refl w _) fun k hk=>.inl (hs k hk)
def yM (x y:Xi.St) (fr:List Nat) (bb off n cv jj S0 cb:Nat) (B:Option Addr) (γ:Gh):Nat->Value
 | 0=>.agg #[.int .i32 x.q.a.v,.int .i32 x.q.b.v,.int .i32 x.q.c.v,.int .i32 x.q.d.v,.int .i64 x.s,.int .i64 x.f,.int .i64 x.g]
 | 1=>.slice (some ⟨bb,off,none⟩) n cv
 | 2=>.int .i64 jj
 | 3=>.pointer (some ⟨bb,off+jj,none⟩)
 | 4=>.slice B 20 cb
 | 5=>γ 5
 | 6=>γ 5
 | 7=>yI (γ 5) 0
 | 8=>yI (γ 5) 1
 | 9=>yI (γ 5) 2
 | 10=>γ 10
 | 11=>undef
 | 12=>yI (γ 5) 1
 | 13=>yI (γ 5) 2
 | _=>undef
def oV:Nat->List Nat
 | 0=>[5]
 | 1=>[10,11]
 | _=>[]
def ar_ (x y:Xi.St) (fr:List Nat) (bb off n cv jj S0 cb:Nat) (B:Option Addr):Nat->wG
 | 0=>OV y fr
 | 1=>FD 10 46 [.int .i32 0,.int .i32 0,.int .i32 0,.int .i32 0,.int .i64 0,.int .i64 0,.int .i64 0] (fun _=>[.int .i32 y.q.a.v,.int .i32 y.q.b.v,.int .i32 y.q.c.v,.int .i32 y.q.d.v,.int .i64 y.s,.int .i64 y.f,.int .i64 y.g])
 | _=>fun _ _ _ _=>False
theorem aj1 (x y:Xi.St) (fr:List Nat) (bb off n cv jj S0 cb:Nat) (B:Option Addr):∀ j,j < 2->PZ (ar_ x y fr bb off n cv jj S0 cb B j):=fun j hj=>by
 match j,hj with
 | 0,_=>exact (show PZ (OV y fr) from OV.aiI y fr)
 | 1,_=>exact (show PZ (FD 10 46 [.int .i32 0,.int .i32 0,.int .i32 0,.int .i32 0,.int .i64 0,.int .i64 0,.int .i64 0] (fun _=>[.int .i32 y.q.a.v,.int .i32 y.q.b.v,.int .i32 y.q.c.v,.int .i32 y.q.d.v,.int .i64 y.s,.int .i64 y.f,.int .i64 y.g])) from FD.aiI _ _ _ _)
theorem asa (x y:Xi.St) (fr:List Nat) (bb off n cv jj S0 cb:Nat) (B:Option Addr) (γ:Gh) (v:Value):∀ j,j∉([5,6,7,8,9,12,13]:List Nat)->yM x y fr bb off n cv jj S0 cb B (upd γ 5 v) j=yM x y fr bb off n cv jj S0 cb B γ j:=fun j hj=>by
 match j,hj with
 | 0,_=>rfl
 | 1,_=>rfl
 | 2,_=>rfl
 | 3,_=>rfl
 | 4,_=>rfl
 | 5,hj=>exact absurd (by decide) hj
 | 6,hj=>exact absurd (by decide) hj
 | 7,hj=>exact absurd (by decide) hj
 | 8,hj=>exact absurd (by decide) hj
 | 9,hj=>exact absurd (by decide) hj
 | 10,_=>rfl
 | 11,_=>rfl
 | 12,hj=>exact absurd (by decide) hj
 | 13,hj=>exact absurd (by decide) hj
 | _+14,_=>rfl
theorem anQ (x y:Xi.St) (fr:List Nat) (bb off n cv jj S0 cb:Nat) (B:Option Addr) (γ:Gh) (v:Value):∀ j,j∉([10]:List Nat)->yM x y fr bb off n cv jj S0 cb B (upd γ 10 v) j=yM x y fr bb off n cv jj S0 cb B γ j:=fun j hj=>by
 match j,hj with
 | 0,_=>rfl
 | 1,_=>rfl
 | 2,_=>rfl
 | 3,_=>rfl
 | 4,_=>rfl
 | 5,_=>rfl
 | 6,_=>rfl
 | 7,_=>rfl
 | 8,_=>rfl
 | 9,_=>rfl
 | 10,hj=>exact absurd (by decide) hj
 | 11,_=>rfl
 | 12,_=>rfl
 | 13,_=>rfl
 | _+14,_=>rfl
theorem asb (v:Nat->Value) (t0 t1 t2 t3 t4 t5 t6 t7 t8 t9 t10 t11 t12 t13 t14 t15 t16 t17 t18 t19 t20 t21 t22 t23 t24 t25 t26 t27 t28 t29 t30 t31 t32 t33:Value):qh v (some 17 :: some 18 :: some 19 :: some 20 :: some 21 :: some 22 :: some 16 :: some 23 :: some 24 :: some 25 :: some 6 :: none :: some 7 :: some 8 :: []) 0 (t0 :: t1 :: t2 :: t3 :: t4 :: t5 :: t6 :: t7 :: t8 :: t9 :: t10 :: t11 :: t12 :: t13 :: t14 :: t15 :: t16 :: t17 :: t18 :: t19 :: t20 :: t21 :: t22 :: t23 :: t24 :: t25 :: t26 :: t27 :: t28 :: t29 :: t30 :: t31 :: t32 :: t33 :: [])=(t0 :: t1 :: t2 :: t3 :: t4 :: t5 :: v 10 :: v 12 :: v 13 :: t9 :: t10 :: t11 :: t12 :: t13 :: t14 :: t15 :: v 6 :: v 0 :: v 1 :: v 2 :: v 3 :: v 4 :: v 5 :: v 7 :: v 8 :: v 9 :: t26 :: t27 :: t28 :: t29 :: t30 :: t31 :: t32 :: t33 :: []):=by kernel_rfl
theorem kD.snoc {w w2:World} {base:Nat} {F:List Nat} {o v':Value} {fs:List (List Nat)} (h:kD w base F o fs) {A:Addr} {n c:Nat} {fr:List Nat} (hs:Sl w (.slice (some A) n c) (fJ fr)) (hA:A.block∉F/\A.block < w.heap.size/\o.ownBlock≠some A.block)
 (hc:ah w w2 o.ownBlock.toList) (hg:v'.ownBlock=o.ownBlock\/v'.ownBlock=some w.heap.size) (hgF:w.heap.size∉F) {rs:List Value} (hrs:∀ (i:Nat) (r:Value) (b:List Nat),rs[i]?=some r->fs[i]?=some b->Sl w r (fJ b)/\∀ A n c,r=.slice (some A) n c->A.block∉F/\A.block < w.heap.size/\o.ownBlock≠some A.block) (hrl:rs.length=fs.length)
 (hown:w2.ownsRow base 29 1 v' (rs.length+1) (rs ++ [.slice (some A) n c])):kD w2 base F v' (fs ++ [fr]) where
 row:=by
  have hlast:∀ A:Addr,A.block∉F/\A.block < w.heap.size/\o.ownBlock≠some A.block->A.block∉F/\A.block < w2.heap.size/\v'.ownBlock≠some A.block:=fun A hh=>⟨hh.1,Nat.lt_of_lt_of_le hh.2.1 hc.size,fun e2=>by
   rcases hg with h | h
   . exact hh.2.2 (h ▸ e2)
   . rw [h] at e2; injection e2 with e2; have:=hh.2.1; omega⟩
  refine ⟨rs ++ [.slice (some A) n c],by simpa using hown,by simp [hrl],fun i r b hr hb=>?_⟩;by_cases hi:i < rs.length
  . rw [List.getElem?_append_left hi] at hr
    rw [List.getElem?_append_left (by omega)] at hb;obtain ⟨q1,q2⟩:=hrs i r b hr hb;exact ⟨q1.aj hc (fun A n c e hm=>(q2 A n c e).2.2 (Option.mem_toList.1 hm)),fun A n c e=>hlast A (q2 A n c e)⟩
  . have hi2 : i=rs.length := by
     have:=(List.getElem?_eq_some_iff.1 hr).1;simp at this;omega
    subst hi2;rw [List.getElem?_append_right (Nat.le_refl _),Nat.sub_self] at hr;rw [hrl,List.getElem?_append_right (Nat.le_refl _),Nat.sub_self] at hb;injection hr with hr;injection hb with hb;subst hr hb;exact ⟨hs.aj hc (fun A' n' c' e hm=>by injection e with e; injection e with e; subst e; exact hA.2.2 (Option.mem_toList.1 hm)),fun A' n' c' e=>by injection e with e; injection e with e; subst e; exact hlast A hA⟩
 far:=fun g' hg' hm=>by
  rcases hg with h' | h'
  . exact h.far g' (h' ▸ hg') hm
  . rw [h'] at hg'; injection hg' with hg'; subst hg'; exact hgF hm
theorem Qr {w:World} (hg:qg w) {v:Value} {ls:List (List Nat)} (h:Rows w v ls) (h20:∀ b∈ls,b.length=20) (hb:∀ b∈ls,∀ y∈b,y < 256) (hl:ls.length<=12) :
 Calls Tryz.prog 8 #[v] w fun e w'=>∃ o,e=.returned o/\ah w w' []/\kD w' w.heap.size (List.range w.heap.size) o (dV st0 ls):=by
 have fH:=hide (show Tryz.prog.follows .mixedOrders=true by kernel_rfl);obtain ⟨i0,hi0,hz0,hz1,hz2⟩:=info_parts X5;obtain ⟨A,cv,rfl,hx⟩:=h.open_;have HX:=hide hx;have HG:=hide hg;have H20:=hide h20;have HB:=hide hb;clear h hx hg h20 hb;go_enter Tryz.func8,Tryz.ntmps8
 go_wp2_with fail
 go_at_call 24;refine (Qq _).mono ?_;rintro e w1 ⟨rfl,hc1⟩;have hS:=aC.new w1 46 [.int .i32 1073741824,.int .i32 0,.int .i32 0,.int .i32 0,.int .i64 0,.int .i64 0,.int .i64 0];have hcells0:(gZ st0 (ls.take 0)).cells=[.int .i32 1073741824,.int .i32 0,.int .i32 0,.int .i32 0,.int .i64 0,.int .i64 0,.int .i64 0]:=by kernel_rfl
 have hca:ah w1 (w1.alloc (.cells #[.int .i32 1073741824,.int .i32 0,.int .i32 0,.int .i32 0,.int .i64 0,.int .i64 0,.int .i64 0] 46)) []:=(ah.refl w1 []).alloc _;have hza:(w1.alloc (.cells #[.int .i32 1073741824,.int .i32 0,.int .i32 0,.int .i32 0,.int .i64 0,.int .i64 0,.int .i64 0] 46)).heap.size=w1.heap.size+1:=size_alloc _ _;have lu:=hide (hc1.trans hca (D:=[]) (by simp));have HS:=hide (show aC (w1.alloc (.cells #[.int .i32 1073741824,.int .i32 0,.int .i32 0,.int .i32 0,.int .i64 0,.int .i64 0,.int .i64 0] 46)) w1.heap.size 46 (gZ st0 (ls.take 0)).cells from hcells0 ▸ hS);have X7:=hide hza;have HZ1:=hide hc1.size;clear hS hca hc1 hza;go_wp2_with fail
 generalize w1.alloc (.cells #[.int .i32 1073741824,.int .i32 0,.int .i32 0,.int .i32 0,.int .i64 0,.int .i64 0,.int .i64 0] 46)=wa at *;generalize w1.heap.size=S0 at *;go_loopw [4,5,7,8] (fun o i _ _ wr=>∃ j:Nat,j<=ls.length/\i=.int .i64 j/\Hid (ah w wr [])/\Hid (aC wr S0 46 (gZ st0 (ls.take j)).cells)/\Hid (kD wr w.heap.size (List.range (S0+1)) o (dV st0 (ls.take j)))) (fun _ i _ _ _=>ls.length - (intOf i).toNat)
 case atStart=>exact ⟨0,Nat.zero_le _,rfl,lu,HS,hide ⟨⟨[],World.ownsRow_nil _ _ _ _,rfl,fun i r b h=>by simp at h⟩,fun g h=>by simp [Value.ownBlock] at h⟩⟩
 case round =>
  obtain ⟨o,hou⟩:∃ o,o=u4:=⟨_,rfl⟩
  subst hou;obtain ⟨jj,hj,rfl,HC,HSb,HO⟩:=hrel;by_cases hlt:jj < ls.length
  . obtain ⟨b,hjb⟩:∃ b,ls[jj]?=some b:=⟨ls[jj],by simp [hlt]⟩
    obtain ⟨bb,off,B,cb,rfl,hcl,hsl⟩:=HX.out jj b hjb;have LW:=H20.out b (List.mem_of_getElem? hjb);have hbb:=HB.out b (List.mem_of_getElem? hjb);have hcl':=HC.out.cell hcl (by simp);have aj2:=hsl.keep HC.out;rw [LW] at hcl' aj2;have HCL:=hide hcl';have hst:gZ st0 (ls.take (jj+1))=(gZ st0 (ls.take jj)).next b:=by rw [List.take_add_one,hjb]; exact Dt _ _ _
    have hfr:dV st0 (ls.take (jj+1))=dV st0 (ls.take jj) ++ [((gZ st0 (ls.take jj)).next b).frame (iq b)]:=by rw [List.take_add_one,hjb]; exact Bo _ _ _
    have HST:=hide hst;have ajX:=hide hfr;have hxr:=Bq CO (ls.take jj);have hfl:=xk st0 (ls.take jj);have Gj:=hide (show (dV st0 (ls.take jj)).length=jj from by rw [hfl]; simp; omega);have HJN:=hide hlt;clear hst hfr hfl hjb hcl hsl hcl';generalize gZ st0 (ls.take jj)=x at *;generalize dV st0 (ls.take jj)=fs at *;have HFD:Hid (∀ w1,ah wr w1 []->Calls Tryz.prog 25 #[x.val,.slice B 20 cb] w1 fun e w2=>∃ A n c,e=.returned (.tuple #[(x.next b).val,.slice (some A) n c,.int .i64 0])/\Sl w2 (.slice (some A) n c) (fJ ((x.next b).frame (iq b)))/\w1.heap.size<=A.block/\ah w1 w2 []):=hide fun w1 hc=>agN hxr LW hbb w1 (by first | exact trivial | exact (HG.out.aj (HC.out.trans hc (D:=[]) (by simp)) (by simp)).four) (aj2.keep hc);have HFR:=hide (show 0 < (fJ ((x.next b).frame (iq b))).length from by rw [jT,Xi.j_]; decide);have HZ0:=hide (show 11<=wr.heap.size from Nat.le_trans HG.out.size HC.out.size);have HS0:=HSb;clear aj2 hxr hbb LW;generalize hY:x.next b=y at *;generalize y.frame (iq b)=fr at *;generalize hn:ls.length=n at *;go_wp2_with fail
    go_upto_region 6 with (fail)
    refine jD fH.out _ _ (fun γ=>yM x y fr bb off n cv jj S0 cb B γ) (fun (γ:Gh) L w'=>aZ 2 (ar_ x y fr bb off n cv jj S0 cb B) oV wr [] γ L w') (fun _=>undef) (by kernel_rfl) [] (by kernel_rfl) (fun p hp γ=>by simp at hp) (by kernel_rfl) ?step ?start ?fin ?ext
    case ext =>
     intro γ L L' w' h hw
     exact aZ.ext (fun j hj e he=>h e (by
      match j,hj with
      | 0,_=>simp [oV] at he; rcases he with rfl<;>decide
      | 1,_=>simp [oV] at he; rcases he with rfl | rfl<;>decide
      )) hw
    case step =>
     intro i o ho L av w1 γ hdn ak hW hL hpre K' Q' hK
     match i,ho with
      | 0,ho =>
       injection ho with ho; subst ho;have b3:av.tmps.getD 3 undef=.pointer (some ⟨S0,0,none⟩):=iL ak 3 (by kernel_rfl);clear ak;have hbb:=HS0.out.aj (aZ.aj hW) (by simp);have hll:=hbb.lt;have y0:=hbb.cell' (i:=0) rfl;have y1:=hbb.cell' (i:=1) rfl;have y2:=hbb.cell' (i:=2) rfl;have y3:=hbb.cell' (i:=3) rfl;have y4:=hbb.cell' (i:=4) rfl;have y5:=hbb.cell' (i:=5) rfl;have y6:=hbb.cell' (i:=6) rfl;refine ay ?_ (hK γ w1 (fun _ _=>rfl) (aZ.same hW 0 (by decide))); go_simp; rfl
      | 1,ho =>
       injection ho with ho; subst ho;have b0:av.tmps.getD 0 undef=.slice (some ⟨bb,off,none⟩) n cv:=iL ak 0 (by kernel_rfl);clear ak;refine ay ?_ (hK γ w1 (fun _ _=>rfl) (aZ.same hW 1 (by decide))); go_simp; rfl
      | 2,ho =>
       injection ho with ho; subst ho;have b5:av.tmps.getD 5 undef=.int .i64 jj:=iL ak 5 (by kernel_rfl);clear ak;refine ay ?_ (hK γ w1 (fun _ _=>rfl) (aZ.same hW 2 (by decide))); go_simp; rfl
      | 3,ho =>
       injection ho with ho; subst ho;have s1:=aO ak 18 1 (by kernel_rfl) (hpre ⟨1,.data⟩ (by simp) rfl);have s2:=aO ak 19 2 (by kernel_rfl) (hpre ⟨2,.data⟩ (by simp) rfl);simp only [yM] at s1 s2;clear ak;have hjn:=HJN.out;have hj1:(jj:Int) < (n:Int):=by omega
       have hj0:(0:Int)<=(jj:Int):=by omega
       refine ay ?_ (hK γ w1 (fun _ _=>rfl) (aZ.same hW 3 (by decide))); go_simp; rfl
      | 4,ho =>
       injection ho with ho; subst ho;have s3:=aO ak 20 3 (by kernel_rfl) (hpre ⟨3,.data⟩ (by simp) rfl);simp only [yM] at s3;clear ak;have hcl:=ah.cell (aZ.aj hW) HCL.out (by simp);refine ay ?_ (hK γ w1 (fun _ _=>rfl) (aZ.same hW 4 (by decide))); go_simp; rfl
      | 5,ho =>
       injection ho with ho; subst ho;have s0:=aO ak 17 0 (by kernel_rfl) (hpre ⟨0,.data⟩ (by simp) rfl);have s4:=aO ak 21 4 (by kernel_rfl) (hpre ⟨4,.data⟩ (by simp) rfl);simp only [yM] at s0 s4;clear ak;have hm:aP L (oV 0)=0:=by simp [oV,aP,hL]
       have hm2:aP (fun e=>if e=5 then true else L e) (oV 0)=1:=by simp [oV,aP]
       refine iZ (f:=25) (args:=#[x.val,.slice B 20 cb]) ?_ (HFD.out w1 (aZ.aj hW)) ?_
       . go_simp
         rfl
       . rintro e w2 ⟨A,n1,c1,rfl,hsl,hnew,hc⟩
         have hlt:=alm hsl HFR.out
         exact ⟨_,rfl,hK (upd γ 5 (.tuple #[y.val,.slice (some A) n1 c1,.int .i64 0])) w2 (mZ hdn [5,6,7,8,9,12,13] (by kernel_rfl) hL (asa x y fr bb off n cv jj S0 cb B γ _)) (aZ.eff (aj1 x y fr bb off n cv jj S0 cb B) HZ0.out hW 5 0 (by decide) (by decide) hm hm2 (fun F0 hF0=>⟨[A.block],hc.more (by simp),(fun k hk=>by simp at hk; subst hk; exact .inr hnew),(fun k hk=>by simp at hk; subst hk; exact hlt),A,n1,c1,jE _ _ _,hsl,rfl⟩) (fun q hq hn F h=>by
         match q,hq,hn with
         | 0,_,hn=>exact absurd rfl hn
         | 1,_,hn=>exact h
       ))⟩
      | 6,ho =>
       injection ho with ho; subst ho;have s5:=aO ak 22 5 (by kernel_rfl) (hpre ⟨5,.data⟩ (by simp) rfl);simp only [yM] at s5;clear ak;refine ay ?_ (hK γ w1 (fun _ _=>rfl) (aZ.same hW 6 (by decide))); go_simp; rfl
      | 7,ho =>
       injection ho with ho; subst ho;have s6:=aO ak 16 6 (by kernel_rfl) (hpre ⟨6,.data⟩ (by simp) rfl);simp only [yM] at s6;clear ak;have c5:L 5=true:=hdn 6 _ rfl (hpre ⟨6,.data⟩ (by simp) rfl) ⟨5,.data⟩ (by simp) rfl;obtain ⟨F_f,h_f,_,_⟩:=aZ.get hW 0 (by decide) (m:=1) (by simp [oV,aP,c5]);obtain ⟨A0,n0,c0,e5,_,_⟩:=h_f;rw [e5] at s6;refine ay (v:=yI (γ 5) 0) ?_ (hK γ w1 (fun _ _=>rfl) (aZ.same hW 7 (by decide))); rw [e5]; go_simp; first | done | rfl
      | 8,ho =>
       injection ho with ho; subst ho;have s6:=aO ak 16 6 (by kernel_rfl) (hpre ⟨6,.data⟩ (by simp) rfl);simp only [yM] at s6;clear ak;have c5:L 5=true:=hdn 6 _ rfl (hpre ⟨6,.data⟩ (by simp) rfl) ⟨5,.data⟩ (by simp) rfl;obtain ⟨F_f,h_f,_,_⟩:=aZ.get hW 0 (by decide) (m:=1) (by simp [oV,aP,c5]);obtain ⟨A0,n0,c0,e5,_,_⟩:=h_f;rw [e5] at s6;refine ay (v:=yI (γ 5) 1) ?_ (hK γ w1 (fun _ _=>rfl) (aZ.same hW 8 (by decide))); rw [e5]; go_simp; first | done | rfl
      | 9,ho =>
       injection ho with ho; subst ho;have s6:=aO ak 16 6 (by kernel_rfl) (hpre ⟨6,.data⟩ (by simp) rfl);simp only [yM] at s6;clear ak;have c5:L 5=true:=hdn 6 _ rfl (hpre ⟨6,.data⟩ (by simp) rfl) ⟨5,.data⟩ (by simp) rfl;obtain ⟨F_f,h_f,_,_⟩:=aZ.get hW 0 (by decide) (m:=1) (by simp [oV,aP,c5]);obtain ⟨A0,n0,c0,e5,_,_⟩:=h_f;rw [e5] at s6;refine ay (v:=yI (γ 5) 2) ?_ (hK γ w1 (fun _ _=>rfl) (aZ.same hW 9 (by decide))); rw [e5]; go_simp; first | done | rfl
      | 10,ho =>
       injection ho with ho; subst ho;clear ak;have hm:aP L (oV 1)=0:=by simp [oV,aP,hL]
       have n11:L 11=false:=by
        cases h:L 11 with
        | false=>rfl
        | true=>have hx:L 10=true:=(hdn 11 _ rfl h ⟨10,.data⟩ (by simp) rfl); rw [hL] at hx; cases hx
       have hm2:aP (fun e=>if e=10 then true else L e) (oV 1)=1:=by simp [oV,aP,n11]
       refine ay (v:=.pointer (some ⟨w1.heap.size,0,none⟩)) (w':=w1.alloc (.cells #[.int .i32 0,.int .i32 0,.int .i32 0,.int .i32 0,.int .i64 0,.int .i64 0,.int .i64 0] 46)) ?_ (hK (upd γ 10 (.pointer (some ⟨w1.heap.size,0,none⟩))) _ (mZ hdn [10] (by kernel_rfl) hL (anQ x y fr bb off n cv jj S0 cb B γ _)) (aZ.eff (aj1 x y fr bb off n cv jj S0 cb B) HZ0.out hW 10 1 (by decide) (by decide) hm hm2 (FD.make (st:=(fun _=>[.int .i32 y.q.a.v,.int .i32 y.q.b.v,.int .i32 y.q.c.v,.int .i32 y.q.d.v,.int .i64 y.s,.int .i64 y.f,.int .i64 y.g]))) (fun q hq hn F h=>by
        match q,hq,hn with
        | 0,_,hn=>exact h
        | 1,_,hn=>exact absurd rfl hn
       )))
       . go_simp
      | 11,ho =>
       injection ho with ho; subst ho;have s10:=aO ak 6 10 (by kernel_rfl) (hpre ⟨10,.data⟩ (by simp) rfl);have s7:=aO ak 23 7 (by kernel_rfl) (hpre ⟨7,.data⟩ (by simp) rfl);simp only [yM] at s10 s7;clear ak;have c5:L 5=true:=hpre ⟨5,.chain⟩ (by simp) rfl;obtain ⟨F_f,h_f,_,_⟩:=aZ.get hW 0 (by decide) (m:=1) (by simp [oV,aP,c5]);obtain ⟨A0,n0,c0,e5,_,_⟩:=h_f;rw [e5] at s7;replace s7:av.tmps.getD 23 undef=.agg #[.int .i32 y.q.a.v,.int .i32 y.q.b.v,.int .i32 y.q.c.v,.int .i32 y.q.d.v,.int .i64 y.s,.int .i64 y.f,.int .i64 y.g]:=s7;have c10:L 10=true:=hpre ⟨10,.data⟩ (by simp) rfl;have hm:aP L (oV 1)=1:=by simp [oV,aP,hL,c10]
       have hm2:aP (fun e=>if e=11 then true else L e) (oV 1)=2:=by simp [oV,aP,c10]
       obtain ⟨F,hF,hF2,_⟩:=aZ.get hW 1 (by decide) hm;obtain ⟨a,ha,rfl,hb⟩:=hF;have hal:=hb.lt;have f0:=hb.frozen 0;have z0:=hb.cell' (i:=0) rfl;have f1:=hb.frozen 1;have z1:=hb.cell' (i:=1) rfl;have f2:=hb.frozen 2;have z2:=hb.cell' (i:=2) rfl;have f3:=hb.frozen 3;have z3:=hb.cell' (i:=3) rfl;have f4:=hb.frozen 4;have z4:=hb.cell' (i:=4) rfl;have f5:=hb.frozen 5;have z5:=hb.cell' (i:=5) rfl;have f6:=hb.frozen 6;have z6:=hb.cell' (i:=6) rfl;rw [ha] at s10;refine ER (w':=(((((((w1.setCell ⟨a,0,none⟩ (.int .i32 y.q.a.v)).setCell ⟨a,1,none⟩ (.int .i32 y.q.b.v)).setCell ⟨a,2,none⟩ (.int .i32 y.q.c.v)).setCell ⟨a,3,none⟩ (.int .i32 y.q.d.v)).setCell ⟨a,4,none⟩ (.int .i64 y.s)).setCell ⟨a,5,none⟩ (.int .i64 y.f)).setCell ⟨a,6,none⟩ (.int .i64 y.g))) ?_ (hK γ _ (fun _ _=>rfl) (aZ.eff (γ':=γ) (aj1 x y fr bb off n cv jj S0 cb B) HZ0.out hW 11 1 (by decide) (by decide) hm hm2 (fun F0 hF0=>?_) (fun q hq hn F h=>h)))
       . go_simp
       . obtain ⟨a0,ha0,rfl,hb0⟩:=hF0
         rw [ha] at ha0;injection ha0 with ha0; injection ha0 with ha0; injection ha0 with ha0;subst ha0;have hcc:=((((((((ah.refl w1 [a]).setCell ⟨a,0,none⟩ (.int .i32 y.q.a.v) (.inl (List.mem_singleton.2 rfl))).setCell ⟨a,1,none⟩ (.int .i32 y.q.b.v) (.inl (List.mem_singleton.2 rfl))).setCell ⟨a,2,none⟩ (.int .i32 y.q.c.v) (.inl (List.mem_singleton.2 rfl))).setCell ⟨a,3,none⟩ (.int .i32 y.q.d.v) (.inl (List.mem_singleton.2 rfl))).setCell ⟨a,4,none⟩ (.int .i64 y.s) (.inl (List.mem_singleton.2 rfl))).setCell ⟨a,5,none⟩ (.int .i64 y.f) (.inl (List.mem_singleton.2 rfl))).setCell ⟨a,6,none⟩ (.int .i64 y.g) (.inl (List.mem_singleton.2 rfl)))
         refine ⟨[a],hcc,Sub.refl _ _,fun k hk=>?_,a,ha,rfl,(((((((hb.bC 0 (.int .i32 y.q.a.v)).bC 1 (.int .i32 y.q.b.v)).bC 2 (.int .i32 y.q.c.v)).bC 3 (.int .i32 y.q.d.v)).bC 4 (.int .i64 y.s)).bC 5 (.int .i64 y.f)).bC 6 (.int .i64 y.g))⟩;have hk:k=a:=by simpa using hk
         subst hk;exact Nat.lt_of_lt_of_le hal hcc.size
      | 12,ho =>
       injection ho with ho; subst ho;have s8:=aO ak 24 8 (by kernel_rfl) (hpre ⟨8,.data⟩ (by simp) rfl);simp only [yM] at s8;clear ak;refine ay ?_ (hK γ w1 (fun _ _=>rfl) (aZ.same hW 12 (by decide))); go_simp; rfl
      | 13,ho =>
       injection ho with ho; subst ho;have s9:=aO ak 25 9 (by kernel_rfl) (hpre ⟨9,.data⟩ (by simp) rfl);simp only [yM] at s9;clear ak;refine ay ?_ (hK γ w1 (fun _ _=>rfl) (aZ.same hW 13 (by decide))); go_simp; rfl
      | _+14,ho=>cases ho
    case start =>
     refine aZ.start fun k hk=>?_
     match k,hk with
     | 0,_=>exact rfl
     | 1,_=>exact rfl
    case fin =>
    intro γ W2 hW;obtain ⟨F1,F2,hf,hbk,hap⟩:=aZ.apart hW 0 1 (by decide) (by decide) (by decide) (m:=1) (m':=2) rfl rfl;obtain ⟨A1,n1,c1,e5,hsl1,rfl⟩:=hf;obtain ⟨a,e10,rfl,hba⟩:=hbk
    have hA1:wr.heap.size<=A1.block:=by
     obtain ⟨F3,hf3,_,hs3⟩:=aZ.get hW 0 (by decide) (m:=1) rfl;obtain ⟨A3,n3,c3,e3,_,rfl⟩:=hf3;rw [e5] at e3;have:A1=A3:=by injection e3 with e3; injection e3 with e3; injection e3 with _ e3; injection e3 with e3 _; injection e3 with e3; injection e3 with e3
     subst this;rcases hs3 _ (List.mem_singleton.2 rfl) with h | h
     . cases h
     . exact h
    have ha1:wr.heap.size<=a:=by
     obtain ⟨F3,hf3,_,hs3⟩:=aZ.get hW 1 (by decide) (m:=2) rfl;obtain ⟨a3,e3,rfl,_⟩:=hf3;rw [e10] at e3;have:a=a3:=by injection e3 with e3; injection e3 with e3; injection e3 with e3
     subst this;rcases hs3 _ (List.mem_singleton.2 rfl) with h | h
     . cases h
     . exact h
    have hcW:=hW.aj;rw [jX,iy,jH];simp only [List.map_cons,List.map_nil];rw [asb];simp only [yM];rw [e5,e10];rw [show yI (.tuple #[y.val,.slice (some A1) n1 c1,.int .i64 0]) 1=.slice (some A1) n1 c1 from rfl,show yI (.tuple #[y.val,.slice (some A1) n1 c1,.int .i64 0]) 2=.int .i64 0 from rfl,show yI (.tuple #[y.val,.slice (some A1) n1 c1,.int .i64 0]) 0=y.val from rfl];have HSW:=hide (HS0.out.aj hcW (by simp));have HOW:=hide (HO.out.keep hcW);have asf:=HS0.out.lt;have HA:=hide (show a≠S0/\S0 < wr.heap.size/\wr.heap.size<=W2.heap.size/\A1.block < W2.heap.size from ⟨by omega,asf,hcW.size,alm hsl1 HFR.out⟩);have HSL:=hide hsl1;have HBA:=hide hba;have X8:=hide hcW;have HA1:=hide hA1;have HA2:=hide ha1;obtain ⟨rs,hown,hrl,hrs⟩:=HOW.out.row;have HOWN:=hide hown;have HRL:=hide hrl;have HRS:=hide hrs;have hrj:rs.length=jj:=by rw [hrl,Gj.out]
    have HRJ:=hide hrj;have HWB:=hide (show w.heap.size<=wr.heap.size from HC.out.size);obtain ⟨V,vc,rfl⟩:=aY hown;clear hW hsl1 hba hcW hown hrl hrs hA1 ha1 hap asf hrj;go_wp2_with (at_builtin; refine wpList_append_own_at _ rfl _ _ 22 rfl w.heap.size 29 i0 (.slice none 0 0) 1 24 Tryz.underlying22 hi0 hz0 hz1 hz2 rfl (by decide) _ rs.length rs rfl (HOWN.out.alloc _) ⟨W2.heap.size,0,none⟩ 1 1 [.slice (some A1) n1 c1] rfl rfl ?c1 ?c2 ?c3 ?c4 ?c5 ?_)
    case c2=>rfl
    case c3=>have:=HRJ.out; unfold maxLen; omega
    case c4=>have:=HRJ.out; omega
    case c5=>have:=HA.out; have:=HWB.out; simp; omega
    intro v' w5 hown' hgrow _ hg5;have hcl:ah W2 (W2.alloc (.cells #[.slice (some A1) n1 c1] 29)) []:=(ah.refl W2 []).alloc _;have hgr:=ah.eF hgrow (D:=(Value.slice V rs.length vc).ownBlock.toList) (fun k hk=>.inl (by simp [hk]));have hsz:(W2.alloc (.cells #[.slice (some A1) n1 c1] 29)).heap.size=W2.heap.size+1:=size_alloc _ _;have hoA:=HOW.out.keep hcl
    have hV:∀ g,(Value.slice V rs.length vc).ownBlock=some g->S0 < g/\g < wr.heap.size/\w.heap.size<=g:=fun g hg=>by
     have h1:=HOW.out.far g hg;rw [List.mem_range] at h1;obtain ⟨_,hw0,_⟩:=HO.out.row;exact ⟨by omega,(hw0.lt g hg).2,(hw0.lt g hg).1⟩
    have hO5:kD w5 w.heap.size (List.range (S0+1)) v' (fs ++ [fr]):=by
     refine hoA.snoc (HSL.out.keep hcl) ⟨?_,?_,fun e=>?_⟩ hgr (by rw [hsz]; exact hg5) ?_ (fun i r b hr hb=>?_) HRL.out hown'
     . have:=HA1.out; have:=HA.out; rw [List.mem_range]; omega
     . have:=HA.out; omega
     . have:=hV _ e; have:=HA1.out; omega
     . have:=HA.out; rw [List.mem_range]; omega
     . obtain ⟨q1,q2⟩:=HRS.out i r b hr hb
       exact ⟨q1.keep hcl,fun A n c e=>⟨(q2 A n c e).1,Nat.lt_of_lt_of_le (q2 A n c e).2.1 hcl.size,(q2 A n c e).2.2⟩⟩
    have hb5:aC w5 a 46 y.cells:=(HBA.out.aj hcl (by simp)).aj hgr (fun hm=>by have:=hV _ (Option.mem_toList.1 hm); have:=HA2.out; omega);have hs5:=(HSW.out.aj hcl (by simp)).aj hgr (fun hm=>by have:=hV _ (Option.mem_toList.1 hm); omega);have z0:=hb5.cell' (i:=0) rfl;have z1:=hb5.cell' (i:=1) rfl;have z2:=hb5.cell' (i:=2) rfl;have z3:=hb5.cell' (i:=3) rfl;have z4:=hb5.cell' (i:=4) rfl;have z5:=hb5.cell' (i:=5) rfl;have z6:=hb5.cell' (i:=6) rfl;have f0:=hs5.frozen 0;have f1:=hs5.frozen 1;have f2:=hs5.frozen 2;have f3:=hs5.frozen 3;have f4:=hs5.frozen 4;have f5:=hs5.frozen 5;have f6:=hs5.frozen 6;have y0:=hs5.cell' (i:=0) rfl;have y1:=hs5.cell' (i:=1) rfl;have y2:=hs5.cell' (i:=2) rfl;have y3:=hs5.cell' (i:=3) rfl;have y4:=hs5.cell' (i:=4) rfl;have y5:=hs5.cell' (i:=5) rfl;have y6:=hs5.cell' (i:=6) rfl;have yl:=hs5.lt;have su:=hide hs5;have uP:=hide hO5
    have ig:Hid (ah w w5 []):=hide (by
     exact (HC.out.trans (X8.out.trans hcl (D:=[]) (by simp)) (by simp)).trans hgr (fun k hk=>.inr (hV k (Option.mem_toList.1 hk)).2.2))
    clear hgr hgrow hown' hs5 hO5 hb5 hoA hV hg5 hcl hsz;go_wp2;go_roundw
    case rel=>exact ⟨jj+1,by omega,by go_num,hide (ig.out.trans (XV w5 S0 _ _ _ _ _ _ _) (fun k hk=>.inr (by simp at hk; subst hk; exact HZ1.out))),hide (by rw [HST.out]; exact ajS su.out _ _ _ _ _ _ _),hide (by rw [ajX.out]; exact uP.out.aj ((XV w5 S0 _ _ _ _ _ _ _).more (fun k hk=>.inl (by simp at hk; subst hk; simp))) (Sub.refl _ _))⟩
    case measure=>simp [intOf]; omega
  . have hjl:jj=ls.length:=by omega
    subst hjl;go_wp2;go_ret;have ho:=HO.out;rw [List.take_of_length_le (Nat.le_refl _)] at ho;have hz:=HZ1.out;exact ⟨_,rfl,HC.out,ho.own fun k hk=>List.mem_range.2 (by have:=List.mem_range.1 hk; omega)⟩
theorem at1 (w:World):(Instr.makeSlice 29 (.int .i64 20) (.int .i64 20)).run Tryz.prog w=.ok (.slice (some ⟨w.heap.size,0,none⟩) 20 20) (w.alloc (.cells #[.int .u8 0,.int .u8 0,.int .u8 0,.int .u8 0,.int .u8 0,.int .u8 0,.int .u8 0,.int .u8 0,.int .u8 0,.int .u8 0,.int .u8 0,.int .u8 0,.int .u8 0,.int .u8 0,.int .u8 0,.int .u8 0,.int .u8 0,.int .u8 0,.int .u8 0,.int .u8 0] 5)):=by kernel_rfl
theorem at6 (w:World):Sl (w.alloc (.cells #[.int .u8 0,.int .u8 0,.int .u8 0,.int .u8 0,.int .u8 0,.int .u8 0,.int .u8 0,.int .u8 0,.int .u8 0,.int .u8 0,.int .u8 0,.int .u8 0,.int .u8 0,.int .u8 0,.int .u8 0,.int .u8 0,.int .u8 0,.int .u8 0,.int .u8 0,.int .u8 0] 5)) (.slice (some ⟨w.heap.size,0,none⟩) 20 20) (fJ z20) :=
 Sl.blk' (aC.new w 5 (fJ z20)) rfl (Nat.le_refl _)
theorem J9 {w:World} {v:Value} {ls:List (List Nat)} (h:Rows w v ls) (h20:∀ b∈ls,b.length=20) (hl:ls.length<=9223372036854775807) :
 Calls Tryz.prog 5 #[v] w fun e w'=>e=.returned (.bool (decide ((ls.length:Int)<=12)))/\w=w':=by
 obtain ⟨A,cv,rfl,hx⟩:=h.open_;have HX:=hide hx;have H20:=hide h20;obtain ⟨k1,hk1⟩:∃ k1,decide ((ls.length:Int)<=12)=k1:=⟨_,rfl⟩
 rw [hk1];clear h hx h20;go_enter Tryz.func5,Tryz.ntmps5
 go_wp2_with fail
 go_loopw [3] (fun i wr=>∃ j:Nat,j<=ls.length/\i=.int .i64 j/\w=wr) (fun i _=>ls.length - (intOf i).toNat)
 case atStart=>exact ⟨0,Nat.zero_le _,rfl,rfl⟩
 case round =>
  obtain ⟨j,hj,rfl,rfl⟩:=hrel;by_cases hlt:j < ls.length
  . obtain ⟨b,hjb⟩:∃ b,ls[j]?=some b:=⟨ls[j],by simp [hlt]⟩
    obtain ⟨bb,off,B,cb,rfl,hc,hs⟩:=HX.out j b hjb;have t20:=H20.out b (List.mem_of_getElem? hjb);rw [t20] at hc;clear hs hjb;go_wp2;go_roundw
    case rel=>exact ⟨j+1,by omega,by go_num,by first | rfl | trivial⟩
    case measure=>simp [intOf]; omega
  . have hjl:j=ls.length:=by omega
    clear hlt hj;subst hjl;go_wp2;go_ret;exact ⟨rfl,rfl⟩
theorem Y7 {w:World} {v:Value} {ls:List (List Nat)} (h:Rows w v ls) (h20:∀ b∈ls,b.length=20) (hl:ls.length<=12) :
 Calls Tryz.prog 5 #[v] w fun e w'=>e=.returned (.bool true)/\w=w':=by
 have h1:=J9 h h20 (by omega);rwa [decide_eq_true (show (ls.length:Int)<=12 by omega)] at h1
theorem adB {w:World} {v:Value} {ls:List (List Nat)} (h:Rows w v ls) {p:Nat} {b0:List Nat} (hp:ls[p]?=some b0) (hb:b0.length≠20) (hl:ls.length<=9223372036854775807) :
 Calls Tryz.prog 5 #[v] w fun e w'=>e=.returned (.bool false)/\w=w':=by
 obtain ⟨A,cv,rfl,hx⟩:=h.open_;have HX:=hide hx;have HP:=hide hp;have HB:=hide hb;have hpl:p < ls.length:=(List.getElem?_eq_some_iff.1 hp).1;clear h hx hp hb;go_enter Tryz.func5,Tryz.ntmps5
 go_wp2_with fail
 go_loopw [3] (fun i wr=>∃ j:Nat,j<=p/\i=.int .i64 j/\w=wr) (fun i _=>ls.length - (intOf i).toNat)
 case atStart=>exact ⟨0,Nat.zero_le _,rfl,rfl⟩
 case round =>
  obtain ⟨j,hj,rfl,rfl⟩:=hrel;have hlt:j < ls.length:=by omega
  obtain ⟨b,hjb⟩:∃ b,ls[j]?=some b:=⟨ls[j],by simp [hlt]⟩
  obtain ⟨bb,off,B,cb,rfl,hc,hs⟩:=HX.out j b hjb;by_cases t20:b.length=20
  . have hne:j≠p:=fun e=>by subst e; have:=hjb.symm.trans HP.out; exact HB.out (Option.some.inj this ▸ t20)
    rw [t20] at hc;clear hs hjb;go_wp2;go_roundw
    case rel=>exact ⟨j+1,by omega,by go_num,by first | rfl | trivial⟩
    case measure=>simp [intOf]; omega
  . have k1:((b.length:Int)==20)=false:=by simp; omega
    have k2:((b.length:Int) != 20)=true:=by simp; omega
    clear hs hjb t20;go_wp2;go_ret;exact ⟨rfl,rfl⟩
theorem awu:∃ y4 y5 y6 y7 y8 y9 y10:Int,(st0.next z20).rep (iq z20)=.agg #[.int .i64 1,.int .i64 1,.int .i64 1,.int .i64 0,.int .i32 y4,.int .i32 y5,.int .i32 y6,.int .i32 y7,.int .i32 y8,.int .i32 y9,.int .i32 y10]:=by
 rw [ajV,agK];unfold Xi.St.rep;rw [anO];exact ⟨_,_,_,_,_,_,_,rfl⟩
theorem SB {w:World} (hg:qg w):Calls Tryz.prog 6 #[] w fun e w'=>e=.returned (.bool true)/\ah w w' []:=by
 have hmk:=at1;have hcA:=(ah.refl w []).alloc (.cells #[.int .u8 0,.int .u8 0,.int .u8 0,.int .u8 0,.int .u8 0,.int .u8 0,.int .u8 0,.int .u8 0,.int .u8 0,.int .u8 0,.int .u8 0,.int .u8 0,.int .u8 0,.int .u8 0,.int .u8 0,.int .u8 0,.int .u8 0,.int .u8 0,.int .u8 0,.int .u8 0] 5);have hz:=size_alloc w (.cells #[.int .u8 0,.int .u8 0,.int .u8 0,.int .u8 0,.int .u8 0,.int .u8 0,.int .u8 0,.int .u8 0,.int .u8 0,.int .u8 0,.int .u8 0,.int .u8 0,.int .u8 0,.int .u8 0,.int .u8 0,.int .u8 0,.int .u8 0,.int .u8 0,.int .u8 0,.int .u8 0] 5);have hsl:=at6 w;have hb:=aC.new (w.alloc (.cells #[.int .u8 0,.int .u8 0,.int .u8 0,.int .u8 0,.int .u8 0,.int .u8 0,.int .u8 0,.int .u8 0,.int .u8 0,.int .u8 0,.int .u8 0,.int .u8 0,.int .u8 0,.int .u8 0,.int .u8 0,.int .u8 0,.int .u8 0,.int .u8 0,.int .u8 0,.int .u8 0] 5)) 29 [.slice (some ⟨w.heap.size,0,none⟩) 20 20];have hcB:=(ah.refl (w.alloc (.cells #[.int .u8 0,.int .u8 0,.int .u8 0,.int .u8 0,.int .u8 0,.int .u8 0,.int .u8 0,.int .u8 0,.int .u8 0,.int .u8 0,.int .u8 0,.int .u8 0,.int .u8 0,.int .u8 0,.int .u8 0,.int .u8 0,.int .u8 0,.int .u8 0,.int .u8 0,.int .u8 0] 5)) []).alloc (.cells #[.slice (some ⟨w.heap.size,0,none⟩) 20 20] 29);rw [hz] at hb
 have hrows:Rows _ (.slice (some ⟨w.heap.size+1,0,none⟩) 1 1) [z20]:=⟨_,Sl.blk' hb rfl (Nat.le_refl _),rfl,fun i r b hr hbb=>by
  match i with
  | 0 =>
   obtain rfl:=Option.some.inj hr;obtain rfl:=Option.some.inj hbb;exact hsl.keep hcB
  | i+1=>simp at hr⟩
 have hch:=hcA.trans hcB (D:=[]) (by simp)
 have hrun:=OU (hg.aj hch (by simp)) hrows (by simp [z20]) (fun b hb y hy=>by
  simp at hb;subst hb;rw [List.eq_of_mem_replicate hy]
  decide) (by simp)
 obtain ⟨κ,hκ,h0⟩:∃ κ:Int,(([z20].length:Nat):Int) * gJ bW=κ/\0 < κ:=⟨_,rfl,by have:=Y6; simpa using this⟩
 rw [hκ] at hrun;have k1:decide (κ > 0)=true:=decide_eq_true h0;obtain ⟨y4,y5,y6,y7,y8,y9,y10,hrep⟩:=awu;have HR:=hide hrun;have asi:=hide hrep;have HC:=hide hch;clear hrun hrep hch hcA hcB hsl hb hrows hg hκ hz;go_enter Tryz.func6,Tryz.ntmps6
 go_wp2_with fail
 go_at_call 11;refine HR.out.mono ?_;rintro e w3 ⟨u,rfl,hc,ho⟩;clear HR hmk;obtain ⟨rs,hown,hrl,hrs⟩:=ho.row
 obtain ⟨r,rfl⟩:∃ r,rs=[r]:=by
  match rs,hrl with
  | [r],_=>exact ⟨r,rfl⟩
 obtain ⟨hr,_⟩:=hrs 0 r _ rfl rfl;have hsl:=Sl.own hown;obtain ⟨A,cu,rfl,hcell⟩:=oh hsl;obtain ⟨bb,off,rfl,hcell0,_⟩:=hcell 0 r rfl;obtain ⟨A2,c2,rfl,_⟩:=id hr;have hget:=ash (st0.next z20) (Xi.St.FU CO z20) (Xi.Bj z20) _ w3 trivial hr;rw [asi.out] at hget;have HGT:=hide hget;have iR:=hide (HC.out.trans hc (by simp));clear hget hc ho hown hrl hrs hr hsl hcell asi;generalize (fJ _).length=nn at *;simp only [List.length_cons,List.length_nil,Nat.zero_add,Nat.add_zero] at *;go_wp2_with fail
 go_at_call 21;refine HGT.out.mono ?_;rintro e w4 ⟨rfl,hc4⟩;have gV:=hide (iR.out.trans hc4 (by simp));have b9:=aC.new w4 58 [.int .i64 1,.int .i64 1,.int .i64 1,.int .i64 0,.int .i32 y4,.int .i32 y5,.int .i32 y6,.int .i32 y7,.int .i32 y8,.int .i32 y9,.int .i32 y10];have z0:=b9.cell' (i:=0) rfl;have z1:=b9.cell' (i:=1) rfl;have z2:=b9.cell' (i:=2) rfl;clear HGT hc4;go_wp2_with fail
 go_ret;exact ⟨rfl,gV.out.alloc _⟩
theorem agQ:[kW 0,kW 0,kW 0,kW 0,kW 0,kW 0,kW 0,kW 0,kW 0,kW 0,kW 0,kW 0,kW 0,kW 0,kW 0,kW 0,kW 0,kW 0,kW 0,kW 0] ++ FV.drop 20=FV:=by kernel_rfl
theorem SC {w:World} (hg:qg w) {c:Nat} {F:List Nat} (h:fK w c (wordsOf aK 2921) rY fF F) {v:Value} (him:Bl w v) (mY:∀ k∈yC v,k∉F) :
 Calls Tryz.prog 34 #[.pointer (some ⟨c,0,none⟩),v,.slice none 0 0] w fun e w'=>∃ u F' s' ws',e=.returned u/\ah w w' F/\Sub F' F w/\fK w' c (wordsOf aK 2921) s' ws' F'/\OO s':=by
 obtain ⟨N,m',hN,hr,hst,hks,hv,hm'⟩:=LC ali (kW 0) (kW 0) (kW 0) (kW 0) (kW 0) (kW 0) (kW 0) (kW 0) (kW 0) (kW 0) (kW 0) (kW 0) (kW 0) (kW 0) (kW 0) (kW 0) (kW 0) (kW 0) (kW 0) (kW 0);rw [agQ] at hr;have hd:fF.length=908:=by rw [<- Qn,List.length_map,RI]
 have hol:bG.length=32:=by decide +kernel
 have hml:=hm'.len;have hlt:∀ a∈bG,a < 908:=by decide +kernel
 obtain ⟨vals,hvl,hvals⟩:∃ vals:List Int,vals.length=bG.length/\∀ (j a:Nat) (x:Int),bG[j]?=some a->vals[j]?=some x->(kR m')[a]?=some x:=by
  refine ⟨bG.map fun a=>(kR m').getD a 0,by simp,fun j a x hj hx=>?_⟩;rw [List.getElem?_map,hj] at hx;injection hx with hx;have ha:=hlt a (List.mem_of_getElem? hj);have hl:a < (kR m').length:=by show a < (m'.mm.map (·.v)).length; rw [List.length_map,hml]; exact ha
  have hx:(kR m').getD a 0=x:=hx;rw [<- hx,List.getD_eq_getElem?_getD,List.getElem?_eq_getElem hl];rfl
 refine (Iw h hg him mY (xs:=[]) ⟨none,0,rfl,Nat.zero_le _,fun h=>absurd h (by simp)⟩ (fun k hk=>by cases hk) (Nat.zero_le _) (fun a ha=>by rw [hd]; simp at ha; omega) (by decide) (by rw [hol]; decide) Qn hr hst (by rw [rQ]; decide) (by omega) hvl hvals).mono ?_;rintro e w' ⟨u,F',rfl,hc,hs,hk,ho⟩;refine ⟨u,F',iM m',_,rfl,hc,hs,hk,?_,?_,?_⟩
 . show ((m'.st:Nat):Int)=1
   rw [hst];rfl
 . show m'.ks.map AX=_
   rw [hks]
 . show gJ m'.ks=_
   rw [hks]
theorem Y8 {w:World} (hg:qg w) {v:Value} (him:Bl w v) :
 Calls Tryz.prog 37 #[v,.slice none 0 0] w fun e w'=>∃ u,e=.returned (.tuple #[u,.int .i64 (gJ bW)])/\ah w w' []:=by
 have Oa:=hide him;have Du:=JD him;obtain ⟨v1,v2,v3,v4,v5,rfl,g1,g2,g3,g4,g5⟩:=him;obtain ⟨a1,c1,rfl,_⟩:=id g1;obtain ⟨a2,c2,rfl,_⟩:=id g2;obtain ⟨a3,c3,rfl,_⟩:=id g3;obtain ⟨a4,c4,rfl,_⟩:=id g4;obtain ⟨a5,c5,rfl,_⟩:=id g5;have e1:(jo ((wordsOf aK 2921).map fun n:Nat=>(n:Int))).length=(wordsOf aK 2921).length:=by simp only [jo,List.length_map]
 rw [e1] at g1 Oa Du ⊢;rw [sQ] at g2 Oa Du ⊢;generalize (bools jQ).length=n3 at *;generalize (ints [0,1,2,3,4,5,6,7,8,9,10,11,12,13,14,15,16,17,18,19]).length=n4 at *;generalize (ints bG).length=n5 at *;have hcA:ah w (w.alloc (.cells #[.slice a1 (wordsOf aK 2921).length c1,.slice a2 fF.length c2,.slice a3 n3 c3,.slice a4 n4 c4,.slice a5 n5 c5] 66)) []:=(ah.refl w []).alloc _;have hgA:=hg.aj hcA (by simp);have hnew:=Oc hgA a1 a2 c1 c2 (wordsOf aK 2921) fF (g1.keep hcA) (g2.keep hcA) Z8 Z9 (by rw [rQ]; decide) (by decide);have hbl:=aC.new w 66 [.slice a1 (wordsOf aK 2921).length c1,.slice a2 fF.length c2,.slice a3 n3 c3,.slice a4 n4 c4,.slice a5 n5 c5];have RJ:(w.alloc (.cells #[.slice a1 (wordsOf aK 2921).length c1,.slice a2 fF.length c2,.slice a3 n3 c3,.slice a4 n4 c4,.slice a5 n5 c5] 66)).heap.size=w.heap.size+1:=size_alloc _ _;have Qo:=hide Du;have HG:=hide hg;have yJ:=hide hbl;have X7:=hide RJ;have Gl:=hide hcA;clear hg hcA hgA hbl g1 g2 g3 g4 g5 e1 Du RJ;generalize hn1:(wordsOf aK 2921).length=n1 at *;generalize hn2:fF.length=n2 at *;go_enter Tryz.func37,Tryz.ntmps37
 go_wp2_with fail
 go_at_call 23;refine hnew.mono ?_;rintro e w1 ⟨c,F,rfl,hc1,hk1,hf1⟩;have hcw:ah w w1 []:=Gl.out.trans hc1 (by simp);have hag:=SC (HG.out.aj hcw (by simp)) hk1 (Oa.out.keep hcw) (fun k hk hm=>by have:=Qo.out k hk; have:=hf1 k hm; have:=X7.out; omega);have DV:=hide (yJ.out.aj hc1 (by simp));have X8:=hide hcw;have HF:=hide (show ∀ k∈F,w.heap.size<=k from fun k hk=>by have:=hf1 k hk; have:=X7.out; omega);have y0:=DV.out.cell' (i:=0) rfl;have y1:=DV.out.cell' (i:=1) rfl;have y2:=DV.out.cell' (i:=2) rfl;have y3:=DV.out.cell' (i:=3) rfl;have y4:=DV.out.cell' (i:=4) rfl;clear hnew hc1 hcw hk1 hf1;go_wp2_with fail
 go_at_call 34;refine hag.mono ?_;rintro e w2 ⟨u,F',s',ws',rfl,hc2,hs2,hk2,hd2⟩;have hcy:=Gq hk2;rw [hd2.2.2] at hcy;have HC2:=hide (X8.out.trans hc2 (fun k hk=>.inr (HF.out k hk)));clear hag hc2 hs2 hk2 hd2;go_wp2_with fail
 go_at_call 36;refine hcy.mono ?_;rintro e w3 ⟨rfl,rfl⟩;go_wp2;go_ret2;exact ⟨u,rfl,HC2.out⟩
theorem Y9 {w:World} (hg:qg w):Calls Tryz.prog 13 #[] w fun e w'=>e=.returned (.int .i64 (gJ bW))/\ah w w' []:=by
 have hi:=(FH w hg).mono (R':=fun e w'=>∃ v,e=.returned v/\ah w w' []/\Bl w' v) (fun e w' ⟨v,h1,h2,h3,_⟩=>⟨v,h1,h2,h3⟩);have HG:=hide hg;clear hg;go_enter Tryz.func13,Tryz.ntmps13
 go_wp2_with fail
 go_at_call 22;refine hi.mono ?_;rintro e w1 ⟨vi,rfl,hc1,him⟩;have hr:=Y8 (HG.out.aj hc1 (by simp)) him;have dG:=hide hc1;obtain ⟨v1,v2,v3,v4,v5,rfl,_⟩:=id him;clear hi hc1 him;go_wp2_with fail
 go_at_call 37;refine hr.mono ?_;rintro e w2 ⟨u,rfl,hc2⟩;have HC2:=hide (dG.out.trans hc2 (by simp));clear hr hc2;go_wp2;go_ret;exact ⟨rfl,HC2.out⟩
theorem kD.rows {w:World} {base:Nat} {F:List Nat} {o:Value} {fs:List (List Nat)} (h:kD w base F o fs):Rows w o fs:=by
 obtain ⟨rs,h1,h2,h3⟩:=h.row;exact ⟨rs,Sl.own h1,h2,fun i r b hr hb=>(h3 i r b hr hb).1⟩
theorem SE {w:World} {u v:Value} {ls:List (List Nat)} (h:Rows w u ls) (h':Rows w v ls) (hb:∀ b∈ls,∀ y∈b,y < 256) (hl:ls.length<=1000):Calls Tryz.prog 12 #[u,v] w fun e w'=>e=.returned (.bool true)/\ah w w' []:=by
 obtain ⟨A,cu,rfl,hx⟩:=h.open_;obtain ⟨A',cv,rfl,hx'⟩:=h'.open_;have HX:=hide hx;have HX':=hide hx';have HB:=hide hb;clear h h' hx hx' hb;go_enter Tryz.func12,Tryz.ntmps12
 go_wp2_with fail
 go_loopw [5] (fun i wr=>∃ j:Nat,j<=ls.length/\i=.int .i64 j/\Hid (ah w wr [])) (fun i _=>ls.length - (intOf i).toNat)
 case atStart=>exact ⟨0,Nat.zero_le _,rfl,hide (ah.refl w [])⟩
 case round =>
  obtain ⟨j,hj,rfl,HC⟩:=hrel;by_cases hlt:j < ls.length
  . obtain ⟨b,hjb⟩:∃ b,ls[j]?=some b:=⟨ls[j],by simp [hlt]⟩
    obtain ⟨bb,off,B,cb,rfl,hc,hs⟩:=HX.out j b hjb;obtain ⟨bb',off',B',cb',rfl,hc',hs'⟩:=HX'.out j b hjb;have q1:=HC.out.cell hc (by simp);have q2:=HC.out.cell hc' (by simp);have hbb:=HB.out b (List.mem_of_getElem? hjb);have s1:=fun (W:World) (hW:ah w W [])=>zN (hs.keep hW) hbb;have s2:=fun (W:World) (hW:ah w W [])=>zN (hs'.keep hW) hbb;have ss:=XZ;have k1:=s1 wr HC.out;have k2:=s2 wr HC.out;have k3:=fun n:Nat=>s1 (wr.drewN n) (HC.out.drewN n);have k4:=fun n:Nat=>s2 (wr.drewN n) (HC.out.drewN n);clear hc hc' hs hs' hjb hbb s1 s2;go_wp2_with fail
    go_quiet (fail)
    go_wp2;go_roundw
    case rel=>exact ⟨j+1,by omega,by go_num,hide (HC.out.drewN _)⟩
    case measure=>simp [intOf]; omega
  . have hjl:j=ls.length:=by omega
    subst hjl;go_wp2;go_ret;exact ⟨rfl,HC.out⟩
def rV (a1 a2 a3 a4 a5:Option Addr) (n1 c1 n2 c2 n3 c3 c4 c5 cc Q N:Nat) (γ:Gh):Nat->Value
 | 0=>.agg #[.slice a1 n1 c1,.slice a2 n2 c2,.slice a3 n3 c3,.slice a4 20 c4,.slice a5 32 c5]
 | 1=>.pointer (some ⟨cc,0,none⟩)
 | 2=>.agg #[.slice a1 n1 c1,.slice a2 n2 c2,.slice a3 n3 c3,.slice a4 20 c4,.slice a5 32 c5,.pointer (some ⟨cc,0,none⟩)]
 | 3=>γ 3
 | 4=>.pointer (some ⟨cc,0,none⟩)
 | 5=>.bool true
 | 6=>.bool true
 | 7=>.int .i64 0
 | 8=>.bool true
 | 9=>.bool true
 | 10=>.bool true
 | 11=>.pointer (some ⟨Q,3,none⟩)
 | 12=>.slice a4 20 c4
 | 13=>.int .i64 20
 | 14=>.bool true
 | 15=>.bool true
 | 16=>.bool true
 | 17=>.pointer (some ⟨Q,4,none⟩)
 | 18=>.slice a5 32 c5
 | 19=>.int .i64 32
 | 20=>.bool true
 | 21=>.bool true
 | 22=>γ 3
 | 23=>.bool true
 | _=>undef
def Qv:Nat->List Nat
 | 0=>[3]
 | _=>[]
def asj (a1 a2 a3 a4 a5:Option Addr) (n1 c1 n2 c2 n3 c3 c4 c5 cc Q N:Nat):Nat->wG
 | 0=>zD 3 (fun v w=>∃ a,v=.pointer (some ⟨a,0,none⟩)/\N<=a/\aC w a 72 [.slice a1 n1 c1,.slice a2 n2 c2,.slice a3 n3 c3,.slice a4 20 c4,.slice a5 32 c5,.pointer (some ⟨cc,0,none⟩)])
 | _=>fun _ _ _ _=>False
theorem awv (a1 a2 a3 a4 a5:Option Addr) (n1 c1 n2 c2 n3 c3 c4 c5 cc Q N:Nat):∀ j,j < 1->Js (asj a1 a2 a3 a4 a5 n1 c1 n2 c2 n3 c3 c4 c5 cc Q N j):=fun j hj=>by
 match j,hj with
 | 0,_=>exact (show Js (zD 3 (fun v w=>∃ a,v=.pointer (some ⟨a,0,none⟩)/\N<=a/\aC w a 72 [.slice a1 n1 c1,.slice a2 n2 c2,.slice a3 n3 c3,.slice a4 20 c4,.slice a5 32 c5,.pointer (some ⟨cc,0,none⟩)])) from zD.atr fun v w w' h hc=>by obtain ⟨a,h1,h2,h3⟩:=h; exact ⟨a,h1,h2,h3.aj hc (by simp)⟩)
theorem asl (a1 a2 a3 a4 a5:Option Addr) (n1 c1 n2 c2 n3 c3 c4 c5 cc Q N:Nat) (γ:Gh) (v:Value):∀ j,j∉([3,22]:List Nat)->rV a1 a2 a3 a4 a5 n1 c1 n2 c2 n3 c3 c4 c5 cc Q N (upd γ 3 v) j=rV a1 a2 a3 a4 a5 n1 c1 n2 c2 n3 c3 c4 c5 cc Q N γ j:=fun j hj=>by
 match j,hj with
 | 0,_=>rfl
 | 1,_=>rfl
 | 2,_=>rfl
 | 3,hj=>exact absurd (by decide) hj
 | 4,_=>rfl
 | 5,_=>rfl
 | 6,_=>rfl
 | 7,_=>rfl
 | 8,_=>rfl
 | 9,_=>rfl
 | 10,_=>rfl
 | 11,_=>rfl
 | 12,_=>rfl
 | 13,_=>rfl
 | 14,_=>rfl
 | 15,_=>rfl
 | 16,_=>rfl
 | 17,_=>rfl
 | 18,_=>rfl
 | 19,_=>rfl
 | 20,_=>rfl
 | 21,_=>rfl
 | 22,hj=>exact absurd (by decide) hj
 | 23,_=>rfl
 | _+24,_=>rfl
theorem asn (v:Nat->Value) (t0 t1 t2 t3 t4 t5 t6 t7 t8 t9 t10 t11 t12 t13 t14 t15 t16 t17 t18 t19 t20 t21 t22 t23 t24 t25 t26 t27 t28 t29 t30 t31 t32 t33 t34 t35:Value):qh v (some 14 :: some 15 :: some 16 :: some 17 :: some 18 :: some 19 :: some 20 :: some 21 :: some 22 :: some 23 :: some 24 :: some 25 :: some 26 :: some 27 :: some 28 :: some 29 :: some 30 :: some 31 :: some 32 :: some 33 :: some 34 :: some 35 :: some 0 :: some 1 :: []) 0 (t0 :: t1 :: t2 :: t3 :: t4 :: t5 :: t6 :: t7 :: t8 :: t9 :: t10 :: t11 :: t12 :: t13 :: t14 :: t15 :: t16 :: t17 :: t18 :: t19 :: t20 :: t21 :: t22 :: t23 :: t24 :: t25 :: t26 :: t27 :: t28 :: t29 :: t30 :: t31 :: t32 :: t33 :: t34 :: t35 :: [])=(v 22 :: v 23 :: t2 :: t3 :: t4 :: t5 :: t6 :: t7 :: t8 :: t9 :: t10 :: t11 :: t12 :: t13 :: v 0 :: v 1 :: v 2 :: v 3 :: v 4 :: v 5 :: v 6 :: v 7 :: v 8 :: v 9 :: v 10 :: v 11 :: v 12 :: v 13 :: v 14 :: v 15 :: v 16 :: v 17 :: v 18 :: v 19 :: v 20 :: v 21 :: []):=by kernel_rfl
structure FW (w:World) (q c:Nat) (x:Xi.St) (s:CS) (F:List Nat) (s1 s2 s3 s4 s5:Value):Prop where
 row:aC w q 72 [s1,s2,s3,s4,s5,.pointer (some ⟨c,0,none⟩)]
 core:FC w c x s F
 img:Bl w (.agg #[s1,s2,s3,s4,s5])
 far:∀ k∈yC (.agg #[s1,s2,s3,s4,s5]),k∉F
 out:q∉F
theorem SG {w:World} (hg:qg w) :
 Calls Tryz.prog 7 #[] w fun e w'=>∃ (q c:Nat) (F:List Nat) (s1 s2 s3 s4 s5:Value),e=.returned (.tuple #[.pointer (some ⟨q,0,none⟩),.bool true])/\ah w w' []/\FW w' q c st0 rY F s1 s2 s3 s4 s5/\w.heap.size<=q/\∀ k∈F,w.heap.size<=k:=by
 have fH:=hide (show Tryz.prog.follows .mixedOrders=true by kernel_rfl);have HG:=hide hg;have hi:=(FH w hg).mono (R':=fun e w'=>∃ v,e=.returned v/\ah w w' []/\Bl w' v) (fun e w' ⟨v,h1,h2,h3,_⟩=>⟨v,h1,h2,h3⟩);clear hg;go_enter Tryz.func7,Tryz.ntmps7
 go_wp2_with fail
 go_at_call 22;refine hi.mono ?_;rintro e w1 ⟨vi,rfl,hc1,him⟩;clear hi;obtain ⟨v1,v2,v3,v4,v5,rfl,g1,g2,g3,g4,g5⟩:=id him;obtain ⟨a1,c1,rfl,_⟩:=id g1;obtain ⟨a2,c2,rfl,_⟩:=id g2;obtain ⟨a3,c3,rfl,_⟩:=id g3;obtain ⟨a4,c4,rfl,_⟩:=id g4;obtain ⟨a5,c5,rfl,_⟩:=id g5;rw [show (ints [0,1,2,3,4,5,6,7,8,9,10,11,12,13,14,15,16,17,18,19]).length=20 from rfl,show (ints bG).length=32 by decide +kernel] at *;generalize (jo ((wordsOf aK 2921).map fun w:Nat=>(w:Int))).length=n1 at *;generalize (bI fF).length=n2 at *;generalize (bools jQ).length=n3 at *;have hcA:ah w1 (w1.alloc (.cells #[.slice a1 n1 c1,.slice a2 n2 c2,.slice a3 n3 c3,.slice a4 20 c4,.slice a5 32 c5] 66)) []:=(ah.refl w1 []).alloc _;have hgA:=HG.out.aj (hc1.trans hcA (by simp)) (by simp);have hnew:=OQ hgA (g1.keep hcA) (g2.keep hcA);have hbl:=aC.new w1 66 [.slice a1 n1 c1,.slice a2 n2 c2,.slice a3 n3 c3,.slice a4 20 c4,.slice a5 32 c5];have Du:=JD him;have X6:=hide (him.keep hcA);have Qo:=hide Du;have yJ:=hide hbl;have dG:=hide (show ah w (w1.alloc (.cells #[.slice a1 n1 c1,.slice a2 n2 c2,.slice a3 n3 c3,.slice a4 20 c4,.slice a5 32 c5] 66)) [] from hc1.trans hcA (by simp));have RJ:(w1.alloc (.cells #[.slice a1 n1 c1,.slice a2 n2 c2,.slice a3 n3 c3,.slice a4 20 c4,.slice a5 32 c5] 66)).heap.size=w1.heap.size+1:=size_alloc _ _;have X7:=hide RJ;have HGA:=hide hgA;clear hc1 hcA hgA him g1 g2 g3 g4 g5 hbl Du RJ;go_wp2_with fail
 go_at_call 23;refine hnew.mono ?_;rintro e W0 ⟨cc,F0,rfl,hc2,hfc,hF0⟩;have DU:=hide (show ∀ k∈F0,w1.heap.size < k/\w.heap.size<=k from fun k hk=>by have:=hF0 k hk; have:=X7.out; have:=dG.out.size; omega);have Qp:=hide hfc;have HC2:=hide (dG.out.trans hc2 (by simp));have HQb:=hide (yJ.out.aj hc2 (by simp));have ajW:=hide (X6.out.keep hc2);have HZ0:=hide (HGA.out.aj hc2 (by simp)).size;have HNW:=hide (Nat.le_refl W0.heap.size);clear hnew hc2 hfc hF0 X6 yJ dG HGA;generalize hQ:w1.heap.size=Q at *;obtain ⟨N,hN,HNW⟩:∃ N,W0.heap.size=N/\Hid (N<=W0.heap.size):=⟨_,rfl,hide (Nat.le_refl _)⟩
 have HN:=hide hN;clear hN hQ;go_wp2_with fail
 go_upto_region 3 with (fail)
 refine jD fH.out _ _ (fun γ=>rV a1 a2 a3 a4 a5 n1 c1 n2 c2 n3 c3 c4 c5 cc Q N γ) (fun (γ:Gh) L w'=>aZ 1 (asj a1 a2 a3 a4 a5 n1 c1 n2 c2 n3 c3 c4 c5 cc Q N) Qv W0 [] γ L w') (fun _=>undef) (by kernel_rfl) [(6,true),(10,true),(16,true)] (by kernel_rfl) (fun p hp γ=>by simp at hp; rcases hp with rfl | rfl | rfl<;>rfl) (by kernel_rfl) ?step ?start ?fin ?ext
 case ext =>
  intro γ L L' w' h hw
  exact aZ.ext (fun j hj e he=>h e (by
   match j,hj with
   | 0,_=>simp [Qv] at he; rcases he with rfl<;>decide
   )) hw
 case step =>
  intro i o ho L av w1 γ hdn ak hW hL hpre K' Q' hK
  match i,ho with
   | 0,ho =>
    injection ho with ho; subst ho;have b2:av.tmps.getD 2 undef=.pointer (some ⟨Q,0,none⟩):=iL ak 2 (by kernel_rfl);clear ak;have hbb:=HQb.out.aj (aZ.aj hW) (by simp);have hll:=hbb.lt;have y0:=hbb.cell' (i:=0) rfl;have y1:=hbb.cell' (i:=1) rfl;have y2:=hbb.cell' (i:=2) rfl;have y3:=hbb.cell' (i:=3) rfl;have y4:=hbb.cell' (i:=4) rfl;refine ay ?_ (hK γ w1 (fun _ _=>rfl) (aZ.same hW 0 (by decide))); go_simp; rfl
   | 1,ho =>
    injection ho with ho; subst ho;have b3:av.tmps.getD 3 undef=.pointer (some ⟨cc,0,none⟩):=iL ak 3 (by kernel_rfl);clear ak;refine ay ?_ (hK γ w1 (fun _ _=>rfl) (aZ.same hW 1 (by decide))); go_simp; rfl
   | 2,ho =>
    injection ho with ho; subst ho;have s0:=aO ak 14 0 (by kernel_rfl) (hpre ⟨0,.data⟩ (by simp) rfl);have s1:=aO ak 15 1 (by kernel_rfl) (hpre ⟨1,.data⟩ (by simp) rfl);simp only [rV] at s0 s1;clear ak;have s0':=s0;rw [Array.getD_eq_getD_getElem?] at s0';have s1':=s1;rw [Array.getD_eq_getD_getElem?] at s1';refine ay ?_ (hK γ w1 (fun _ _=>rfl) (aZ.same hW 2 (by decide))); go_simp; rfl
   | 3,ho =>
    injection ho with ho; subst ho;have s2:=aO ak 16 2 (by kernel_rfl) (hpre ⟨2,.data⟩ (by simp) rfl);simp only [rV] at s2;clear ak;have hm:aP L (Qv 0)=0:=by simp [Qv,aP,hL]
    have hm2:aP (fun e=>if e=3 then true else L e) (Qv 0)=1:=by simp [Qv,aP]
    refine ay (v:=.pointer (some ⟨w1.heap.size,0,none⟩)) (w':=w1.alloc (.cells #[.slice a1 n1 c1,.slice a2 n2 c2,.slice a3 n3 c3,.slice a4 20 c4,.slice a5 32 c5,.pointer (some ⟨cc,0,none⟩)] 72)) ?_ (hK (upd γ 3 (.pointer (some ⟨w1.heap.size,0,none⟩))) _ (mZ hdn [3,22] (by kernel_rfl) hL (asl a1 a2 a3 a4 a5 n1 c1 n2 c2 n3 c3 c4 c5 cc Q N γ _)) (aZ.av_ (awv a1 a2 a3 a4 a5 n1 c1 n2 c2 n3 c3 c4 c5 cc Q N) HZ0.out hW 3 0 (by decide) (by decide) hm hm2 ((ah.refl w1 []).alloc _) (zD.make (i:=3) (p:=(fun v w=>∃ a,v=.pointer (some ⟨a,0,none⟩)/\N<=a/\aC w a 72 [.slice a1 n1 c1,.slice a2 n2 c2,.slice a3 n3 c3,.slice a4 20 c4,.slice a5 32 c5,.pointer (some ⟨cc,0,none⟩)])) ⟨w1.heap.size,rfl,Nat.le_trans HNW.out (aZ.aj hW).size,aC.new w1 72 [.slice a1 n1 c1,.slice a2 n2 c2,.slice a3 n3 c3,.slice a4 20 c4,.slice a5 32 c5,.pointer (some ⟨cc,0,none⟩)]⟩) (fun q hq hn=>absurd (by omega:q=0) hn)));go_simp
   | 4,ho =>
    injection ho with ho; subst ho;have b3:av.tmps.getD 3 undef=.pointer (some ⟨cc,0,none⟩):=iL ak 3 (by kernel_rfl);clear ak;refine ay ?_ (hK γ w1 (fun _ _=>rfl) (aZ.same hW 4 (by decide))); go_simp; rfl
   | 5,ho =>
    injection ho with ho; subst ho;have s4:=aO ak 18 4 (by kernel_rfl) (hpre ⟨4,.data⟩ (by simp) rfl);simp only [rV] at s4;clear ak;refine ay ?_ (hK γ w1 (fun _ _=>rfl) (aZ.same hW 5 (by decide))); go_simp; rfl
   | 6,ho =>
    injection ho with ho; subst ho;have s5:=aO ak 19 5 (by kernel_rfl) (hpre ⟨5,.data⟩ (by simp) rfl);simp only [rV] at s5;clear ak;refine ay ?_ (hK γ w1 (fun _ _=>rfl) (aZ.same hW 6 (by decide))); go_simp; rfl
   | 7,ho =>
    injection ho with ho; subst ho;have b4:av.tmps.getD 4 undef=.int .i64 0:=iL ak 4 (by kernel_rfl);clear ak;refine ay ?_ (hK γ w1 (fun _ _=>rfl) (aZ.same hW 7 (by decide))); go_simp; rfl
   | 8,ho =>
    injection ho with ho; subst ho;have s7:=aO ak 21 7 (by kernel_rfl) (hpre ⟨7,.data⟩ (by simp) rfl);simp only [rV] at s7;clear ak;refine ay ?_ (hK γ w1 (fun _ _=>rfl) (aZ.same hW 8 (by decide))); go_simp; rfl
   | 9,ho =>
    injection ho with ho; subst ho;have s6:=aO ak 20 6 (by kernel_rfl) (hpre ⟨6,.data⟩ (by simp) rfl);have s8:=aO ak 22 8 (by kernel_rfl) (hpre ⟨8,.data⟩ (by simp) rfl);simp only [rV] at s6 s8;clear ak;refine ay ?_ (hK γ w1 (fun _ _=>rfl) (aZ.same hW 9 (by decide))); go_simp; rfl
   | 10,ho =>
    injection ho with ho; subst ho;have s9:=aO ak 23 9 (by kernel_rfl) (hpre ⟨9,.data⟩ (by simp) rfl);simp only [rV] at s9;clear ak;refine ay ?_ (hK γ w1 (fun _ _=>rfl) (aZ.same hW 10 (by decide))); go_simp; rfl
   | 11,ho =>
    injection ho with ho; subst ho;have b2:av.tmps.getD 2 undef=.pointer (some ⟨Q,0,none⟩):=iL ak 2 (by kernel_rfl);clear ak;have hbb:=HQb.out.aj (aZ.aj hW) (by simp);have hll:=hbb.lt;refine ay ?_ (hK γ w1 (fun _ _=>rfl) (aZ.same hW 11 (by decide))); go_simp; rfl
   | 12,ho =>
    injection ho with ho; subst ho;have s11:=aO ak 25 11 (by kernel_rfl) (hpre ⟨11,.data⟩ (by simp) rfl);simp only [rV] at s11;clear ak;have hbb:=HQb.out.aj (aZ.aj hW) (by simp);have hll:=hbb.lt;have y3:=hbb.cell' (i:=3) rfl;refine ay ?_ (hK γ w1 (fun _ _=>rfl) (aZ.same hW 12 (by decide))); go_simp; rfl
   | 13,ho =>
    injection ho with ho; subst ho;have s12:=aO ak 26 12 (by kernel_rfl) (hpre ⟨12,.data⟩ (by simp) rfl);simp only [rV] at s12;clear ak;refine ay ?_ (hK γ w1 (fun _ _=>rfl) (aZ.same hW 13 (by decide))); go_simp; rfl
   | 14,ho =>
    injection ho with ho; subst ho;have s13:=aO ak 27 13 (by kernel_rfl) (hpre ⟨13,.data⟩ (by simp) rfl);simp only [rV] at s13;clear ak;refine ay ?_ (hK γ w1 (fun _ _=>rfl) (aZ.same hW 14 (by decide))); go_simp; rfl
   | 15,ho =>
    injection ho with ho; subst ho;have s10:=aO ak 24 10 (by kernel_rfl) (hpre ⟨10,.data⟩ (by simp) rfl);have s14:=aO ak 28 14 (by kernel_rfl) (hpre ⟨14,.data⟩ (by simp) rfl);simp only [rV] at s10 s14;clear ak;refine ay ?_ (hK γ w1 (fun _ _=>rfl) (aZ.same hW 15 (by decide))); go_simp; rfl
   | 16,ho =>
    injection ho with ho; subst ho;have s15:=aO ak 29 15 (by kernel_rfl) (hpre ⟨15,.data⟩ (by simp) rfl);simp only [rV] at s15;clear ak;refine ay ?_ (hK γ w1 (fun _ _=>rfl) (aZ.same hW 16 (by decide))); go_simp; rfl
   | 17,ho =>
    injection ho with ho; subst ho;have b2:av.tmps.getD 2 undef=.pointer (some ⟨Q,0,none⟩):=iL ak 2 (by kernel_rfl);clear ak;have hbb:=HQb.out.aj (aZ.aj hW) (by simp);have hll:=hbb.lt;refine ay ?_ (hK γ w1 (fun _ _=>rfl) (aZ.same hW 17 (by decide))); go_simp; rfl
   | 18,ho =>
    injection ho with ho; subst ho;have s17:=aO ak 31 17 (by kernel_rfl) (hpre ⟨17,.data⟩ (by simp) rfl);simp only [rV] at s17;clear ak;have hbb:=HQb.out.aj (aZ.aj hW) (by simp);have hll:=hbb.lt;have y4:=hbb.cell' (i:=4) rfl;refine ay ?_ (hK γ w1 (fun _ _=>rfl) (aZ.same hW 18 (by decide))); go_simp; rfl
   | 19,ho =>
    injection ho with ho; subst ho;have s18:=aO ak 32 18 (by kernel_rfl) (hpre ⟨18,.data⟩ (by simp) rfl);simp only [rV] at s18;clear ak;refine ay ?_ (hK γ w1 (fun _ _=>rfl) (aZ.same hW 19 (by decide))); go_simp; rfl
   | 20,ho =>
    injection ho with ho; subst ho;have s19:=aO ak 33 19 (by kernel_rfl) (hpre ⟨19,.data⟩ (by simp) rfl);simp only [rV] at s19;clear ak;refine ay ?_ (hK γ w1 (fun _ _=>rfl) (aZ.same hW 20 (by decide))); go_simp; rfl
   | 21,ho =>
    injection ho with ho; subst ho;have s16:=aO ak 30 16 (by kernel_rfl) (hpre ⟨16,.data⟩ (by simp) rfl);have s20:=aO ak 34 20 (by kernel_rfl) (hpre ⟨20,.data⟩ (by simp) rfl);simp only [rV] at s16 s20;clear ak;refine ay ?_ (hK γ w1 (fun _ _=>rfl) (aZ.same hW 21 (by decide))); go_simp; rfl
   | 22,ho =>
    injection ho with ho; subst ho;have s3:=aO ak 17 3 (by kernel_rfl) (hpre ⟨3,.data⟩ (by simp) rfl);simp only [rV] at s3;clear ak;refine ay ?_ (hK γ w1 (fun _ _=>rfl) (aZ.same hW 22 (by decide))); go_simp; rfl
   | 23,ho =>
    injection ho with ho; subst ho;have s21:=aO ak 35 21 (by kernel_rfl) (hpre ⟨21,.data⟩ (by simp) rfl);simp only [rV] at s21;clear ak;refine ay ?_ (hK γ w1 (fun _ _=>rfl) (aZ.same hW 23 (by decide))); go_simp; rfl
   | _+24,ho=>cases ho
 case start =>
  refine aZ.start fun j hj=>?_
  match j,hj with
  | 0,_=>exact ⟨rfl,trivial⟩
 case fin =>
 intro γ W2 hW;obtain ⟨_,⟨_,a,hf,hNa,hb⟩,_⟩:=aZ.get hW 0 (by decide) (m:=1) rfl;have hc2:=hW.aj;rw [jX,iy,jH];simp only [List.map_cons,List.map_nil];rw [asn];simp only [rV];rw [hf];have HB:=hide hb;have X8:=hide (HC2.out.trans hc2 (by simp));have HFC:=hide (Qp.out.cO hc2);have Oa:=hide (ajW.out.keep hc2);have aso:=hide (show a∉F0/\w.heap.size<=a from ⟨fun hm=>by have:=Qp.out.lt a hm; have:=HN.out; omega,by have:=HC2.out.size; have:=HN.out; omega⟩);clear hW hf hb hc2 hNa;go_wp2;go_ret2;exact ⟨a,cc,F0,_,_,_,_,_,rfl,X8.out,⟨HB.out,HFC.out,Oa.out,fun k hk hm=>by have:=Qo.out k hk; have:=DU.out k hm; omega,aso.out.1⟩,aso.out.2,fun k hk=>(DU.out k hk).2⟩
def xY (q c bo oo co jj aa:Nat) (zz:Int) (γ:Gh):Nat->Value
 | 0=>.pointer (some ⟨q,0,none⟩)
 | 1=>.pointer (some ⟨q,0,none⟩)
 | 2=>.pointer (some ⟨q,5,none⟩)
 | 3=>.pointer (some ⟨c,0,none⟩)
 | 4=>.pointer (some ⟨q,0,none⟩)
 | 5=>.pointer (some ⟨q,0,none⟩)
 | 6=>.pointer (some ⟨q,0,none⟩)
 | 7=>.pointer (some ⟨q,4,none⟩)
 | 8=>.slice (some ⟨bo,oo,none⟩) 32 co
 | 9=>.int .i64 jj
 | 10=>.pointer (some ⟨bo,oo+jj,none⟩)
 | 11=>.int .i64 (aa:Int)
 | 12=>.tuple #[.int .i32 zz,.bool true]
 | 13=>.tuple #[.int .i32 zz,.bool true]
 | 14=>.int .i32 zz
 | 15=>.bool true
 | 16=>.int .i32 zz
 | 17=>.bool true
 | _=>undef
def aww:Nat->List Nat
 | _=>[]
def asq (q c bo oo co jj aa:Nat) (zz:Int):Nat->wG
 | _=>fun _ _ _ _=>False
theorem awx (q c bo oo co jj aa:Nat) (zz:Int):∀ j,j < 0->Js (asq q c bo oo co jj aa zz j):=fun j hj=>absurd hj (by omega)
theorem asr (v:Nat->Value) (t0 t1 t2 t3 t4 t5 t6 t7 t8 t9 t10 t11 t12 t13 t14 t15 t16 t17 t18 t19 t20 t21 t22 t23 t24 t25 t26 t27 t28 t29 t30 t31 t32 t33 t34 t35 t36 t37 t38 t39 t40 t41 t42 t43 t44 t45 t46 t47 t48 t49 t50 t51 t52 t53 t54 t55 t56 t57 t58 t59 t60 t61 t62 t63 t64 t65 t66 t67 t68 t69 t70 t71 t72 t73 t74 t75 t76 t77 t78 t79 t80 t81 t82 t83 t84 t85 t86 t87 t88 t89 t90:Value):qh v (some 52 :: some 53 :: some 54 :: some 55 :: some 56 :: some 57 :: some 58 :: some 59 :: some 60 :: some 61 :: some 62 :: some 63 :: some 64 :: some 51 :: some 65 :: some 66 :: some 10 :: some 11 :: []) 0 (t0 :: t1 :: t2 :: t3 :: t4 :: t5 :: t6 :: t7 :: t8 :: t9 :: t10 :: t11 :: t12 :: t13 :: t14 :: t15 :: t16 :: t17 :: t18 :: t19 :: t20 :: t21 :: t22 :: t23 :: t24 :: t25 :: t26 :: t27 :: t28 :: t29 :: t30 :: t31 :: t32 :: t33 :: t34 :: t35 :: t36 :: t37 :: t38 :: t39 :: t40 :: t41 :: t42 :: t43 :: t44 :: t45 :: t46 :: t47 :: t48 :: t49 :: t50 :: t51 :: t52 :: t53 :: t54 :: t55 :: t56 :: t57 :: t58 :: t59 :: t60 :: t61 :: t62 :: t63 :: t64 :: t65 :: t66 :: t67 :: t68 :: t69 :: t70 :: t71 :: t72 :: t73 :: t74 :: t75 :: t76 :: t77 :: t78 :: t79 :: t80 :: t81 :: t82 :: t83 :: t84 :: t85 :: t86 :: t87 :: t88 :: t89 :: t90 :: [])=(t0 :: t1 :: t2 :: t3 :: t4 :: t5 :: t6 :: t7 :: t8 :: t9 :: v 16 :: v 17 :: t12 :: t13 :: t14 :: t15 :: t16 :: t17 :: t18 :: t19 :: t20 :: t21 :: t22 :: t23 :: t24 :: t25 :: t26 :: t27 :: t28 :: t29 :: t30 :: t31 :: t32 :: t33 :: t34 :: t35 :: t36 :: t37 :: t38 :: t39 :: t40 :: t41 :: t42 :: t43 :: t44 :: t45 :: t46 :: t47 :: t48 :: t49 :: t50 :: v 13 :: v 0 :: v 1 :: v 2 :: v 3 :: v 4 :: v 5 :: v 6 :: v 7 :: v 8 :: v 9 :: v 10 :: v 11 :: v 12 :: v 14 :: v 15 :: t67 :: t68 :: t69 :: t70 :: t71 :: t72 :: t73 :: t74 :: t75 :: t76 :: t77 :: t78 :: t79 :: t80 :: t81 :: t82 :: t83 :: t84 :: t85 :: t86 :: t87 :: t88 :: t89 :: t90 :: []):=by kernel_rfl
theorem FW.cO {w w':World} {q c:Nat} {x:Xi.St} {s:CS} {F:List Nat} {s1 s2 s3 s4 s5:Value} (h:FW w q c x s F s1 s2 s3 s4 s5) (hc:ah w w' []):FW w' q c x s F s1 s2 s3 s4 s5:=⟨h.row.aj hc (by simp),h.core.cO hc,h.img.keep hc,h.far,h.out⟩
theorem agT {x:Xi.St} (hx:x.right) {l:List Nat} (hl:l.length=20) (hb:∀ y∈l,y < 256) {mem:List Wd} (h2:Dk (s7 x) mem):∃ N m',N<=22724/\Ab.Reach (Nx (wordsOf aK 2921)) N (uq (l.map (fun n:Nat=>kW (n:Int)) ++ mem.drop 20)) m'/\m'.st=1/\m'.ks=bW/\(∀ (j a:Nat) (y:Int),bG[j]?=some a->(((x.next l).frame (iq l)).map fun n:Nat=>(n:Int))[j]?=some y->(kR m')[a]?=some y)/\Dk (s7 (x.next l)) m'.mm/\(l.map (fun n:Nat=>kW (n:Int)) ++ mem.drop 20).map (·.v)=je [0,1,2,3,4,5,6,7,8,9,10,11,12,13,14,15,16,17,18,19] (l.map fun n:Nat=>(n:Int)) (mem.map (·.v))/\mem.length=908:=by
 match l,hl with
 | [x0,x1,x2,x3,x4,x5,x6,x7,x8,x9,x10,x11,x12,x13,x14,x15,x16,x17,x18,x19],_ =>
  obtain ⟨N,m',hN,hr,hst,hks,hv,hm'⟩:=LC h2 (kW (x0:Int)) (kW (x1:Int)) (kW (x2:Int)) (kW (x3:Int)) (kW (x4:Int)) (kW (x5:Int)) (kW (x6:Int)) (kW (x7:Int)) (kW (x8:Int)) (kW (x9:Int)) (kW (x10:Int)) (kW (x11:Int)) (kW (x12:Int)) (kW (x13:Int)) (kW (x14:Int)) (kW (x15:Int)) (kW (x16:Int)) (kW (x17:Int)) (kW (x18:Int)) (kW (x19:Int));obtain ⟨f1,f2⟩:=OL hx x0 x1 x2 x3 x4 x5 x6 x7 x8 x9 x10 x11 x12 x13 x14 x15 x16 x17 x18 x19 hb;rw [f1] at hm';have hf:=wM (x.next [x0,x1,x2,x3,x4,x5,x6,x7,x8,x9,x10,x11,x12,x13,x14,x15,x16,x17,x18,x19]) (Bj [x0,x1,x2,x3,x4,x5,x6,x7,x8,x9,x10,x11,x12,x13,x14,x15,x16,x17,x18,x19]);have hbv:∀ y∈[x0,x1,x2,x3,x4,x5,x6,x7,x8,x9,x10,x11,x12,x13,x14,x15,x16,x17,x18,x19],(kW ((y:Nat):Int)).v=(y:Int):=fun y hy=>dU (by have:=hb y hy; omega);have hp:=aaN (x0:Int) (x1:Int) (x2:Int) (x3:Int) (x4:Int) (x5:Int) (x6:Int) (x7:Int) (x8:Int) (x9:Int) (x10:Int) (x11:Int) (x12:Int) (x13:Int) (x14:Int) (x15:Int) (x16:Int) (x17:Int) (x18:Int) (x19:Int) mem h2.len;rw [hbv x0 (by simp),hbv x1 (by simp),hbv x2 (by simp),hbv x3 (by simp),hbv x4 (by simp),hbv x5 (by simp),hbv x6 (by simp),hbv x7 (by simp),hbv x8 (by simp),hbv x9 (by simp),hbv x10 (by simp),hbv x11 (by simp),hbv x12 (by simp),hbv x13 (by simp),hbv x14 (by simp),hbv x15 (by simp),hbv x16 (by simp),hbv x17 (by simp),hbv x18 (by simp),hbv x19 (by simp)] at hp;refine ⟨N,m',hN,hr,hst,hks,fun j a y hj hy=>?_,hm',hp,h2.len⟩;rw [List.getElem?_map] at hy
  cases hq:((x.next [x0,x1,x2,x3,x4,x5,x6,x7,x8,x9,x10,x11,x12,x13,x14,x15,x16,x17,x18,x19]).frame (iq [x0,x1,x2,x3,x4,x5,x6,x7,x8,x9,x10,x11,x12,x13,x14,x15,x16,x17,x18,x19]))[j]? with
  | none=>rw [hq] at hy; cases hy
  | some z =>
   rw [hq] at hy;injection hy with hy;subst hy;have hz:=hv j a (kW (z:Int)) hj (by rw [f2]; unfold yK; rw [List.getElem?_map,hq]; rfl);show (m'.mm.map (·.v))[a]?=_
   rw [List.getElem?_map,hz];exact congrArg some (dU (by have:=hf z (List.mem_of_getElem? hq); omega))
theorem OZ:(bW.map AX).length=22724:=by rw [List.length_map,wI]
theorem Y_ {w:World} (hg:qg w) {q c:Nat} {x:Xi.St} {s:CS} {F:List Nat} {s1 s2 s3 s4 s5:Value} (h:FW w q c x s F s1 s2 s3 s4 s5) (hx:x.right) {vin:Value} {l:List Nat} (hl:l.length=20) (hb:∀ y∈l,y < 256) (hin:Sl w vin (fJ l)) (hfin:∀ k,Xi.dK vin=some k->k∉F) :
 Calls Tryz.prog 9 #[.pointer (some ⟨q,0,none⟩),vin] w fun e w'=>∃ u m F' s',e=.returned (.tuple #[u,m,.bool true])/\ah w w' F/\Sub F' F w/\FW w' q c (x.next l) s' F' s1 s2 s3 s4 s5/\OO s'/\w'.ownsRow w.heap.size 5 1 u 32 (fJ ((x.next l).frame (iq l)))/\w'.ownsRow w.heap.size 82 3 m 22724 (dY (bW.map AX))/\(∀ g,u.ownBlock=some g->g∉F')/\∀ g,m.ownBlock=some g->g∉F':=by
 have fH:=hide (show Tryz.prog.follows .mixedOrders=true by kernel_rfl);obtain ⟨i0,hi0,hz0,hz1,hz2⟩:=info_parts tZ;obtain ⟨mem,k1,k2⟩:=h.core;have mY:=h.far;have hqo:=h.out;have hrow:=h.row;have Ya:=h.img;clear h;obtain ⟨N,m',hN,hr,hst,hks,hv,hm',hpl,hlt⟩:∃ N m',N<=22724/\Ab.Reach (Nx (wordsOf aK 2921)) N (uq (l.map (fun n:Nat=>kW (n:Int)) ++ mem.drop 20)) m'/\m'.st=1/\m'.ks=bW/\(∀ (j a:Nat) (y:Int),bG[j]?=some a->(((x.next l).frame (iq l)).map fun n:Nat=>(n:Int))[j]?=some y->(kR m')[a]?=some y)/\Dk (s7 (x.next l)) m'.mm/\(l.map (fun n:Nat=>kW (n:Int)) ++ mem.drop 20).map (·.v)=je [0,1,2,3,4,5,6,7,8,9,10,11,12,13,14,15,16,17,18,19] (l.map fun n:Nat=>(n:Int)) (mem.map (·.v))/\mem.length=908:=agT hx hl hb k2
 have hfr:∀ y∈(x.next l).frame (iq l),y < 256:=wM _ (Bj _);have hfl:((x.next l).frame (iq l)).length=32:=Xi.j_ _ _;generalize hF:(x.next l).frame (iq l)=fr at *;obtain ⟨_,_,_,vi,vo,e0,_,_,_,g4,g5⟩:=id Ya
 obtain ⟨rfl,rfl⟩:s4=vi/\s5=vo:=by
  have:=congrArg (fun v=>match v with | .agg a=>a | _=>#[]) e0;simp at this;exact ⟨this.2.2.2.1,this.2.2.2.2⟩
 obtain ⟨Ai,ci,rfl,hi⟩:=oh g4;obtain ⟨Ao,co,rfl,ho⟩:=oh g5;obtain ⟨Ax,cx,rfl,hxs⟩:=oh hin;have hwl:(wordsOf aK 2921).length=2921:=Ia;have e20:(ints [0,1,2,3,4,5,6,7,8,9,10,11,12,13,14,15,16,17,18,19]).length=20:=rfl;have e32:(ints bG).length=32:=by decide +kernel
 rw [e20] at g4 hrow Ya mY ⊢;rw [e32] at g5 hrow Ya mY ⊢;rw [jT,hl] at hin hfin ⊢;have UU:=hide (show ∀ b off,Ax=some ⟨b,off,none⟩->b∉F from fun b off e=>hfin b (by subst e; rfl));have HFI:=hide (show ∀ b off,Ai=some ⟨b,off,none⟩->b∉F from fun b off e=>mY b (by subst e; simp [yC,Xi.dK]));have HFO:=hide (show ∀ b off,Ao=some ⟨b,off,none⟩->b∉F from fun b off e=>mY b (by subst e; simp [yC,Xi.dK]));have HG:=hide hg;have HI:=hide hi;have HO:=hide ho;have HX:=hide hxs;have HR:=hide hr;have HKS:=hide hks;have HV:=hide hv;have Rq:=hide hm';have HPL:=hide hpl;have HST:=hide hst;have HNN:=hide hN;have HB:=hide hb;have HL:=hide hl;have asu:=hide mY;have asv:=hide Ya;have yE:=hide hlt;have Gi:=hide k1;have Yb:=hide hrow;have HFR:=hide hfr;have Gj:=hide hfl;have HWL:=hide hwl;have y1:=hrow.cell' (i:=5) rfl;have y2:=hrow.cell' (i:=3) rfl;have yl:=hrow.lt;clear hg hi ho hxs hr hks hv hm' hpl hst hN hb hl mY Ya hlt k1 hrow hfr hfl g4 g5 e0 e20 e32 hin hfin hx k2 hwl;go_enter Tryz.func9,Tryz.ntmps9
 go_wp2_with fail
 go_loopw [7] (fun i wr=>∃ j:Nat,j<=20/\i=.int .i64 j/\Hid (ah w wr F)/\Hid (fK wr c (wordsOf aK 2921) s (je ([0,1,2,3,4,5,6,7,8,9,10,11,12,13,14,15,16,17,18,19].take j) ((l.map fun n:Nat=>(n:Int)).take j) (mem.map (·.v))) F)) (fun i _=>20 - (intOf i).toNat)
 case atStart=>exact ⟨0,by omega,rfl,hide (ah.refl w F),hide (by simp only [List.take_zero]; exact Gi.out)⟩
 case round =>
  obtain ⟨j,hj,rfl,HC,HK⟩:=hrel;have hbr:=Yb.out.aj HC.out hqo;have z1:=hbr.cell' (i:=5) rfl;have z2:=hbr.cell' (i:=3) rfl;have zl:=hbr.lt;have A_:=hide hbr;clear hbr y1 y2 yl;by_cases hlt:j < 20
  . have t1:decide ((j:Int) < 20)=true:=by simp; omega
    have hj1:(j:Int) < 20:=by omega
    have hj0:(0:Int)<=(j:Int):=by omega
    have hja:([0,1,2,3,4,5,6,7,8,9,10,11,12,13,14,15,16,17,18,19]:List Nat)[j]?=some j:=by
     have:∀ k,k < 20->([0,1,2,3,4,5,6,7,8,9,10,11,12,13,14,15,16,17,18,19]:List Nat)[k]?=some k:=by decide
     exact this j hlt
    obtain ⟨y,hjy⟩:∃ y,l[j]?=some y:=⟨l[j]'(by have:=HL.out; omega),by simp⟩
    have hy:=HB.out y (List.mem_of_getElem? hjy);obtain ⟨bi,oi,rfl,hci,hbi⟩:=HI.out j _ (ints_at hja);obtain ⟨bx,ox,rfl,hcx,hbx⟩:=HX.out j _ (show (fJ l)[j]?=some (.int .u8 (y:Int)) by simp [fJ,hjy]);have ci':=HC.out.cell hci (HFI.out _ _ rfl);have cx':=HC.out.cell hcx (UU.out _ _ rfl);have hcv:IntKind.i32.wrap (y:Int)=(y:Int):=by rw [IntKind.wrap_i32]; omega
    have mO:(l.map fun n:Nat=>(n:Int))[j]?=some (y:Int):=by rw [List.getElem?_map,hjy]; rfl
    have hpk:=JX (HK.out.cO ((ah.refl wr []).drew)) j (y:Int) (by rw [Ik,List.length_map,yE.out]; omega)
    have hset:(je ([0,1,2,3,4,5,6,7,8,9,10,11,12,13,14,15,16,17,18,19].take j) ((l.map fun n:Nat=>(n:Int)).take j) (mem.map (·.v))).set j (y:Int)=je ([0,1,2,3,4,5,6,7,8,9,10,11,12,13,14,15,16,17,18,19].take (j+1)) ((l.map fun n:Nat=>(n:Int)).take (j+1)) (mem.map (·.v)):=by
     rw [List.take_add_one,hja,List.take_add_one,mO];exact (FK _ _ _ j (y:Int) (by have:=HL.out; simp; omega)).symm
    rw [hset] at hpk;clear hset hci hcx hja hjy mO;go_wp2_with fail
    go_still_tail 17,(by kernel_rfl)
    change wpList _ _ _ _ _ wr.drew;go_wp2_with fail
    go_at_call 26;refine hpk.mono ?_;rintro e w2 ⟨rfl,hc2,hk2⟩;have hC2:ah wr w2 F:=((ah.refl wr F).drew).trans hc2 (fun k hk=>.inl hk);have HC2:=hide hC2;have nS:=hide hk2;clear hc2 hk2 hpk hC2 z1 z2 zl ci' cx';go_wp2;go_roundw
    case rel=>exact ⟨j+1,by omega,by go_num,hide (HC.out.trans HC2.out (fun k hk=>.inl hk)),nS⟩
    case measure=>simp [intOf]; omega
  . obtain rfl:j=20:=by omega
    have t1:decide (((20:Nat):Int) < 20)=false:=by decide
    rw [List.take_of_length_le (by decide),List.take_of_length_le (by rw [List.length_map,HL.out]; omega),<- HPL.out] at HK;have hbg:=Ij HK.out;go_wp2_with fail
    go_at_call 27;refine hbg.mono ?_;rintro e w2 ⟨rfl,hc2,F2,hs2,hk2⟩;have hcw2:ah w w2 F:=HC.out.trans hc2 (fun k hk=>.inl hk);have HS2:=hide (show Sub F2 F w from fun k hk=>(hs2 k hk).imp_right fun e=>Nat.le_trans HC.out.size e)
    have hq2:q∉F2:=fun hm=>by
     rcases HS2.out q hm with h | h
     . exact hqo h
     . have:=Yb.out.lt; omega
    have hb2:=Yb.out.aj hcw2 hqo;have z1':=hb2.cell' (i:=5) rfl;have zl':=hb2.lt;have asw:=hide hcw2;have hrn:=Oe hk2 (by have:=HG.out.size; have:=HC.out.size; have:=hc2.size; omega) rfl HR.out HST.out (by have:=HWL.out; omega) (by have:=HNN.out; omega);clear hbg hc2 hs2 hk2 z1 z2 zl hcw2 hb2;go_wp2_with fail
    go_at_call 28;refine hrn.mono ?_;rintro e w3 ⟨⟨n3,rfl⟩,hc3,F3,hs3,hk3⟩;have hcw3:ah w w3 F:=asw.out.trans hc3 (fun k hk=>(HS2.out k hk).imp_right id)
    have G5:=hide (show Sub F3 F w from fun k hk=>by
     rcases hs3 k hk with h | h
     . exact HS2.out k h
     . exact .inr (Nat.le_trans asw.out.size h))
    have iR:=hide hcw3;have HB3:=hide (Yb.out.aj hcw3 hqo);have AA:=hide hk3
    have awy:Hid (∀ (j a:Nat),bG[j]?=some a->∃ b o,Ao=some ⟨b,o,none⟩/\w3.cell? ⟨b,o+j,none⟩=some (.int .i64 (a:Int))):=hide fun j a hja=>by
     obtain ⟨bo,oo,e,hco,_⟩:=HO.out j _ (ints_at hja);exact ⟨bo,oo,e,hcw3.cell hco (HFO.out _ _ e)⟩
    clear hc3 hs3 hk3 hrn z1' zl' hcw3;go_wp2_with fail
    go_loopw [8,9,10,11] (fun v i _ _ wr=>∃ j:Nat,j<=32/\i=.int .i64 j/\Hid (ah w3 wr [])/\Hid (wr.ownsRow w3.heap.size 21 1 v j (bI ((fr.map fun n:Nat=>(n:Int)).take j)))) (fun _ i _ _ _=>32 - (intOf i).toNat)
    case atStart=>exact ⟨0,by omega,rfl,hide (ah.refl _ _),hide (World.ownsRow_nil _ _ _ _)⟩
    case round =>
     obtain ⟨jj,hj,rfl,HR3,Ag⟩:=hrel;have hb4:=HB3.out.aj HR3.out (by simp);have y1:=hb4.cell' (i:=5) rfl;have y4:=hb4.cell' (i:=4) rfl;have yl:=hb4.lt;clear hb4;by_cases hlt:jj < 32
     . have t2:decide ((jj:Int) < 32)=true:=by simp; omega
       have hj1:(jj:Int) < 32:=by omega
       have hj0:(0:Int)<=(jj:Int):=by omega
       obtain ⟨aa,hja⟩:∃ aa,bG[jj]?=some aa:=⟨bG[jj]'(by rw [show bG.length=32 by decide +kernel]; exact hlt),by simp⟩
       obtain ⟨z,hjz⟩:∃ z,fr[jj]?=some z:=⟨fr[jj]'(by have:=Gj.out; omega),by simp⟩
       have mO:(fr.map fun n:Nat=>(n:Int))[jj]?=some (z:Int):=by rw [List.getElem?_map,hjz]; rfl
       obtain ⟨bo,oo,rfl,hco⟩:=awy.out jj aa hja;have co':=HR3.out.cell hco (by simp);have Rn:=hide (show ∀ w1,ah wr w1 []->Calls Tryz.prog 29 #[.pointer (some ⟨c,0,none⟩),.int .i64 (aa:Int)] w1 fun e w'=>e=.returned (.tuple #[.int .i32 (z:Int),.bool true])/\ah w1 w' [] from fun w1 h1=>JY (AA.out.cO (HR3.out.trans h1 (by simp))) aa (z:Int) (HV.out jj aa (z:Int) hja mO))
       have htk:bI ((fr.map fun n:Nat=>(n:Int)).take (jj+1))=bI ((fr.map fun n:Nat=>(n:Int)).take jj) ++ [.int .i32 (z:Int)]:=by
        rw [List.take_add_one,mO];simp [bI]
       have Wx:=hide htk;have VZ:=hide co';have HJN:=hide hlt;have HBW:=hide (HB3.out.aj HR3.out (by simp));obtain ⟨V,vc,rfl⟩:=aY Ag.out;clear hja hjz mO hco htk y4 y1 yl;generalize hzz:(z:Int)=zz at *;clear hzz;go_wp2_with fail
       go_upto_region 12 with (fail)
       refine jD fH.out _ _ (fun γ=>xY q c bo oo co jj aa zz γ) (fun (γ:Gh) L w'=>aZ 0 (asq q c bo oo co jj aa zz) aww wr [] γ L w') (fun _=>undef) (by kernel_rfl) [] (by kernel_rfl) (fun p hp γ=>by simp at hp) (by kernel_rfl) ?step ?start ?fin ?ext
       case ext =>
        intro γ L L' w' h hw;exact aZ.ext (fun j hj=>absurd hj (by omega)) hw
       case step =>
        intro i o ho L av w1 γ hdn ak hW hL hpre K' Q' hK
        match i,ho with
         | 0,ho =>
          injection ho with ho; subst ho;have b0:av.tmps.getD 0 undef=.pointer (some ⟨q,0,none⟩):=iL ak 0 (by kernel_rfl);clear ak;refine ay ?_ (hK γ w1 (fun _ _=>rfl) (aZ.same hW 0 (by decide))); go_simp; rfl
         | 1,ho =>
          injection ho with ho; subst ho;have s0:=aO ak 52 0 (by kernel_rfl) (hpre ⟨0,.data⟩ (by simp) rfl);simp only [xY] at s0;clear ak;refine ay ?_ (hK γ w1 (fun _ _=>rfl) (aZ.same hW 1 (by decide))); go_simp; rfl
         | 2,ho =>
          injection ho with ho; subst ho;have s1:=aO ak 53 1 (by kernel_rfl) (hpre ⟨1,.data⟩ (by simp) rfl);simp only [xY] at s1;clear ak;have hbb:=HBW.out.aj (aZ.aj hW) (by simp);have hll:=hbb.lt;refine ay ?_ (hK γ w1 (fun _ _=>rfl) (aZ.same hW 2 (by decide))); go_simp; rfl
         | 3,ho =>
          injection ho with ho; subst ho;have s2:=aO ak 54 2 (by kernel_rfl) (hpre ⟨2,.data⟩ (by simp) rfl);simp only [xY] at s2;clear ak;have hbb:=HBW.out.aj (aZ.aj hW) (by simp);have hll:=hbb.lt;have y5:=hbb.cell' (i:=5) rfl;refine ay ?_ (hK γ w1 (fun _ _=>rfl) (aZ.same hW 3 (by decide))); go_simp; rfl
         | 4,ho =>
          injection ho with ho; subst ho;have b0:av.tmps.getD 0 undef=.pointer (some ⟨q,0,none⟩):=iL ak 0 (by kernel_rfl);clear ak;refine ay ?_ (hK γ w1 (fun _ _=>rfl) (aZ.same hW 4 (by decide))); go_simp; rfl
         | 5,ho =>
          injection ho with ho; subst ho;have s4:=aO ak 56 4 (by kernel_rfl) (hpre ⟨4,.data⟩ (by simp) rfl);simp only [xY] at s4;clear ak;refine ay ?_ (hK γ w1 (fun _ _=>rfl) (aZ.same hW 5 (by decide))); go_simp; rfl
         | 6,ho =>
          injection ho with ho; subst ho;have s5:=aO ak 57 5 (by kernel_rfl) (hpre ⟨5,.data⟩ (by simp) rfl);simp only [xY] at s5;clear ak;have hbb:=HBW.out.aj (aZ.aj hW) (by simp);have hll:=hbb.lt;refine ay ?_ (hK γ w1 (fun _ _=>rfl) (aZ.same hW 6 (by decide))); go_simp; rfl
         | 7,ho =>
          injection ho with ho; subst ho;have s6:=aO ak 58 6 (by kernel_rfl) (hpre ⟨6,.data⟩ (by simp) rfl);simp only [xY] at s6;clear ak;have hbb:=HBW.out.aj (aZ.aj hW) (by simp);have hll:=hbb.lt;refine ay ?_ (hK γ w1 (fun _ _=>rfl) (aZ.same hW 7 (by decide))); go_simp; rfl
         | 8,ho =>
          injection ho with ho; subst ho;have s7:=aO ak 59 7 (by kernel_rfl) (hpre ⟨7,.data⟩ (by simp) rfl);simp only [xY] at s7;clear ak;have hbb:=HBW.out.aj (aZ.aj hW) (by simp);have hll:=hbb.lt;have y4:=hbb.cell' (i:=4) rfl;refine ay ?_ (hK γ w1 (fun _ _=>rfl) (aZ.same hW 8 (by decide))); go_simp; rfl
         | 9,ho =>
          injection ho with ho; subst ho;have b9:av.tmps.getD 9 undef=.int .i64 jj:=iL ak 9 (by kernel_rfl);clear ak;refine ay ?_ (hK γ w1 (fun _ _=>rfl) (aZ.same hW 9 (by decide))); go_simp; rfl
         | 10,ho =>
          injection ho with ho; subst ho;have s8:=aO ak 60 8 (by kernel_rfl) (hpre ⟨8,.data⟩ (by simp) rfl);have s9:=aO ak 61 9 (by kernel_rfl) (hpre ⟨9,.data⟩ (by simp) rfl);simp only [xY] at s8 s9;clear ak;have hjn:=HJN.out;have hj1:(jj:Int) < 32:=by omega
          have hj0:(0:Int)<=(jj:Int):=by omega
          refine ay ?_ (hK γ w1 (fun _ _=>rfl) (aZ.same hW 10 (by decide))); go_simp; rfl
         | 11,ho =>
          injection ho with ho; subst ho;have s10:=aO ak 62 10 (by kernel_rfl) (hpre ⟨10,.data⟩ (by simp) rfl);simp only [xY] at s10;clear ak;have hcl:=ah.cell (aZ.aj hW) VZ.out (by simp);refine ay ?_ (hK γ w1 (fun _ _=>rfl) (aZ.same hW 11 (by decide))); go_simp; rfl
         | 12,ho =>
          injection ho with ho; subst ho;have s3:=aO ak 55 3 (by kernel_rfl) (hpre ⟨3,.data⟩ (by simp) rfl);have s11:=aO ak 63 11 (by kernel_rfl) (hpre ⟨11,.data⟩ (by simp) rfl);simp only [xY] at s3 s11;clear ak;refine iZ (f:=29) (args:=#[.pointer (some ⟨c,0,none⟩),.int .i64 (aa:Int)]) ?_ (Rn.out w1 (aZ.aj hW)) ?_
          . go_simp
          . rintro e w2 ⟨rfl,hc⟩
            exact ⟨_,rfl,hK γ w2 (fun _ _=>rfl) (aZ.aqm (awx q c bo oo co jj aa zz) hW 12 (by decide) hc (fun j hj F h=>h))⟩
         | 13,ho =>
          injection ho with ho; subst ho;have s12:=aO ak 64 12 (by kernel_rfl) (hpre ⟨12,.data⟩ (by simp) rfl);simp only [xY] at s12;clear ak;refine ay ?_ (hK γ w1 (fun _ _=>rfl) (aZ.same hW 13 (by decide))); go_simp; rfl
         | 14,ho =>
          injection ho with ho; subst ho;have s13:=aO ak 51 13 (by kernel_rfl) (hpre ⟨13,.data⟩ (by simp) rfl);simp only [xY] at s13;clear ak;refine ay ?_ (hK γ w1 (fun _ _=>rfl) (aZ.same hW 14 (by decide))); go_simp; rfl
         | 15,ho =>
          injection ho with ho; subst ho;have s13:=aO ak 51 13 (by kernel_rfl) (hpre ⟨13,.data⟩ (by simp) rfl);simp only [xY] at s13;clear ak;refine ay ?_ (hK γ w1 (fun _ _=>rfl) (aZ.same hW 15 (by decide))); go_simp; rfl
         | 16,ho =>
          injection ho with ho; subst ho;have s14:=aO ak 65 14 (by kernel_rfl) (hpre ⟨14,.data⟩ (by simp) rfl);simp only [xY] at s14;clear ak;refine ay ?_ (hK γ w1 (fun _ _=>rfl) (aZ.same hW 16 (by decide))); go_simp; rfl
         | 17,ho =>
          injection ho with ho; subst ho;have s15:=aO ak 66 15 (by kernel_rfl) (hpre ⟨15,.data⟩ (by simp) rfl);simp only [xY] at s15;clear ak;refine ay ?_ (hK γ w1 (fun _ _=>rfl) (aZ.same hW 17 (by decide))); go_simp; rfl
         | _+18,ho=>cases ho
       case start=>exact aZ.start fun k hk=>absurd hk (by omega)
       case fin =>
       intro γ w4 hW;have hc4:=hW.aj;rw [jX,iy,jH];simp only [List.map_cons,List.map_nil];rw [asr];simp only [xY];have gV:=hide (HR3.out.trans hc4 (by simp));have mg:=hide (aH Ag.out hc4 (by simp));clear hc4 Rn hW;go_wp2_with (at_builtin; refine wpList_append_own _ rfl _ _ 62 rfl w3.heap.size 21 i0 (.int .i32 0) 1 4 Tryz.underlying62 hi0 hz0 hz1 hz2 rfl (by decide) _ jj _ rfl (mg.out.alloc _) ⟨w4.heap.size,0,none⟩ 1 1 [.int .i32 zz] rfl rfl ?c1 ?c2 ?c3 ?c4 ?c5 ?_)
       case c1 =>
        intro j u hj
        match j,hj with
        | 0,hj=>simp at hj; subst hj; simp [Addr.add]
       case c2=>intro u hu; simp at hu; subst hu; rfl
       case c3=>unfold maxLen; omega
       case c4=>omega
       case c5=>have:=gV.out.size; simp; omega
       intro v' w5 hown' hgrow _;have HG5:Hid (ah w3 w5 []):=hide ((gV.out.alloc _).trans (D':=(Value.slice V jj vc).ownBlock.toList) (ah.eF hgrow (fun k hk=>.inl (by simp [hk]))) (fun k hk=>.inr (mg.out.lt k (by simpa using hk)).1));have uP:=hide hown';obtain ⟨A6,c6,hv'⟩:=aY hown';clear hown' hgrow;go_wp2;go_roundw
       case rel=>exact ⟨jj+1,by omega,by go_num,HG5,hide (by rw [Wx.out]; exact uP.out)⟩
       case measure=>simp [intOf]; omega
     . obtain rfl:jj=32:=by omega
       have t2:decide (((32:Nat):Int) < 32)=false:=by decide
       have ho:=Ag.out;rw [List.take_of_length_le (by rw [List.length_map,Gj.out]; omega)] at ho;have hwd:=Qu (by have:=HG.out.size; have:=iR.out.size; have:=HR3.out.size; omega) (Sl.own ho) HFR.out (by have:=Gj.out; omega);rw [Gj.out] at hwd;have hmk:=fun (W:World) (hW:ah w3 W [])=>WL (AA.out.cO hW) (by show 0 < (m'.ks.map AX).length; rw [HKS.out,OZ]; omega) (by show (m'.ks.map AX).length<=_; rw [HKS.out,OZ]; omega);have e2:(iM m').marks=bW.map AX:=by show m'.ks.map AX=_; rw [HKS.out]
       simp only [e2,List.length_map,wI] at hmk;obtain ⟨V,vc,rfl⟩:=aY Ag.out;have HMK:=hide hmk;clear ho y1 y4 yl hmk;go_wp2_with fail
       go_at_call 30;refine hwd.mono ?_;rintro e w4 ⟨uw,rfl,hc4,ho4⟩;have hR4:ah w3 w4 []:=HR3.out.trans hc4 (by simp);have hb4:=HB3.out.aj hR4 (by simp);have y1:=hb4.cell' (i:=5) rfl;have yl:=hb4.lt;have hmk:=HMK.out w4 hR4;have gV:=hide hR4;have HU4:=hide (show ∀ g,uw.ownBlock=some g->w3.heap.size<=g from fun g hg=>Nat.le_trans HR3.out.size (ho4.lt g hg).1);have mg:=hide (Jt ho4 (Nat.le_trans iR.out.size HR3.out.size));obtain ⟨VU,vuc,rfl⟩:=aY ho4;clear hwd hc4 ho4 hb4 hR4 HMK;go_wp2_with fail
       go_at_call 31;refine hmk.mono ?_;rintro e w5 ⟨vm,rfl,hc5,ho5⟩;have hR5:ah w3 w5 []:=gV.out.trans hc5 (by simp);have hst:=WJ (AA.out.cO hR5);have hst1:(iM m').st=1:=by show ((m'.st:Nat):Int)=1; rw [HST.out]; rfl
       rw [hst1] at hst;have hb5:=HB3.out.aj hR5 (by simp);have y1':=hb5.cell' (i:=5) rfl;have yl':=hb5.lt;have ig:=hide hR5;have uP:=hide (aH mg.out hc5 (by simp));have HU5:=hide (show ∀ g,vm.ownBlock=some g->w3.heap.size<=g from fun g hg=>Nat.le_trans gV.out.size (ho5.lt g hg).1);have UZ:=hide (Jt ho5 (Nat.le_trans iR.out.size gV.out.size));obtain ⟨VM,vmc,rfl⟩:=aY ho5;clear hmk hc5 ho5 y1 yl hb5 hR5;go_wp2_with fail
       go_at_call 32;refine hst.mono ?_;rintro e w6 ⟨rfl,rfl⟩;go_wp2;refine bodyPost_ret (results_tmp3 rfl _ _ _) rfl ?_;have hfin:ah w w5 F:=iR.out.trans ig.out (by simp);refine ⟨_,_,F3,iM m',rfl,hfin,G5.out,⟨HB3.out.aj ig.out (by simp),⟨m'.mm,AA.out.cO ig.out,Rq.out⟩,X3 asv.out hfin asu.out,fun k hk hm=>?_,fun hm=>?_⟩,⟨by rw [hst1],e2,by show gJ m'.ks=_; rw [HKS.out]⟩,uP.out,UZ.out,fun g hg hm=>by have:=AA.out.lt g hm; have:=HU4.out g hg; omega,fun g hg hm=>by have:=AA.out.lt g hm; have:=HU5.out g hg; omega⟩
       . rcases G5.out k hm with h | h
         . exact asu.out k hk h
         . have:=JD asv.out k hk; omega
       . rcases G5.out q hm with h | h
         . exact hqo h
         . have:=Yb.out.lt; omega
