/- Texts of this claim, side by side. -/
import Derived.Test.YtjmojlhnmkjdkaaGreatDoorFirmID
import Derived.Test.YtjmojlhnmkjdkaaGreatDoorFedFeedD
set_option linter.unusedVariables false
set_option linter.unusedSimpArgs false
set_option maxRecDepth 100000
set_option maxHeartbeats 8000000
namespace Go.Proofs.YtjmojlhnmkjdkaaGreatDoor
section
open Go Go.RowKit Go.Deep Go.Maps Ab Xi
attribute [local go_sem] Oper.semAt_some
set_option maxRecDepth 100000
def FY:List Wd:=dA.map kW
theorem JQ:FY.map (·.v)=dA:=by kernel_rfl
theorem aoi:(mJ.all fun p=>match FY[p.1]? with | some x=>decide (x.v=(kW ((p.2:Nat):Int)).v) | none=>false)=true:=by kernel_rfl
theorem Sj:FY.length=908:=by kernel_rfl
theorem adJ:Qg (s7 st0) FY where
 len:=Sj
 st:=fun j v hj=>by
  have hj7:j<7:=(List.getElem?_eq_some_iff.1 hj).1;rcases (by omega:j=0\/j=1\/j=2\/j=3\/j=4\/j=5\/j=6) with rfl | rfl | rfl | rfl | rfl | rfl | rfl<;>(rw [<- hj]; show _=_; kernel_rfl)
 ks:=fun p hp=>by
  have h:=List.all_eq_true.1 aoi p hp;split at h
  . rename_i x hx
    rw [hx];exact congrArg some (Wd.dw (of_decide_eq_true h))
  . cases h
def FC (w:World) (c:Nat) (x:Xi.St) (s:CS) (F:List Nat):Prop:=∃ mem,fK w c (wordsOf aY 2921) s (mem.map (·.v)) F/\Qg (s7 x) mem
def FZ(s:CS):Prop:=s.st=1/\s.marks=fA.map Wv/\s.cost=nS fA
theorem FC.aj {w w':World} {c:Nat} {x:Xi.St} {s:CS} {F D:List Nat} (h:FC w c x s F) (hc:ah w w' D) (hD:∀ k∈F,k∉D) (hG:∀ k∈D,11<=k):FC w' c x s F:=by
 obtain⟨mem,h1,h2⟩:=h;exact⟨mem,h1.aj hc hD hG,h2⟩
theorem FC.bJ {w w':World} {c:Nat} {x:Xi.St} {s:CS} {F:List Nat} (h:FC w c x s F) (hc:ah w w' []):FC w' c x s F:=h.aj hc (by simp) (by simp)
theorem FC.lt{w:World}{c:Nat}{x:Xi.St}{s:CS}{F:List Nat}(h:FC w c x s F):∀ k∈F,k<w.heap.size:=by
 obtain⟨mem,h1,_⟩:=h;exact h1.lt
theorem FC.high {w:World} {c:Nat} {x:Xi.St} {s:CS} {F:List Nat} (h:FC w c x s F):∀ k∈F,11<=k:=by
 obtain⟨mem,h1,_⟩:=h;exact h1.high
abbrev F9(w:World)(v:Value):Prop:=w_ w v ((wordsOf aY 2921).map fun w:Nat=>(w:Int)) dA kR [0,1,2,3,4,5,6,7,8,9,10,11,12,13,14,15,16,17,18,19] dZ
theorem zI:(wordsOf aY 2921).length=2921:=RF
theorem II{w:World}{v:Value}{xs:List Value}(h:Sl w v xs)(hx:0<xs.length):∀ k,Xi.dU v=some k->k<w.heap.size:=by
 obtain⟨A,c,rfl,_⟩:=id h;obtain⟨b,off,rfl,_,hb⟩:=h.at_ (k:=0) (u:=xs[0]'hx) (by simp);intro k hk;have:b=k:=Option.some.inj hk;omega
theorem JR{w:World}{v:Value}(h:F9 w v):∀ k∈vI v,k<w.heap.size:=by
 obtain⟨v1,v2,v3,v4,v5,rfl,g1,g2,g3,g4,g5⟩:=h;have q1:=II g1 (by simp only [jH,List.length_map,zI]; omega);have q2:=II g2 (by rw [sV,show dA.length=908 by decide +kernel]; omega);have q3:=II g3 (by rw [show(bools kR).length=kR.length by simp [bools],show kR.length=908 by decide +kernel]; omega);have q4:=II g4 (by rw [sU]; decide);have q5:=II g5 (by rw [sU,show dZ.length=32 by decide +kernel]; omega);intro k hk;obtain⟨u,hu,hub⟩:=List.mem_filterMap.1 hk;simp only [List.mem_cons,List.not_mem_nil,or_false] at hu;rcases hu with rfl | rfl | rfl | rfl | rfl
 . exact q1 k hub
 . exact q2 k hub
 . exact q3 k hub
 . exact q4 k hub
 . exact q5 k hub
theorem IJ{w:World}{v:Value}{xs:List Value}(h:Sl w v xs)(hx:0<xs.length):∃ b,Xi.dU v=some b/\∀(A:Addr) (n c:Nat),v=.slice (some A) n c->A.block=b:=by
 obtain⟨A,c,rfl,_⟩:=id h;obtain⟨b,off,rfl,_,hb⟩:=h.at_ (k:=0) (u:=xs[0]'hx) (by simp);refine⟨b,rfl,fun A' n' c' e=>?_⟩;injection e with e; injection e with e;rw [<- e]
theorem qY {w w':World} {v:Value} {F:List Nat} (h:F9 w v) (hc:ah w w' F) (hF:∀ k∈vI v,k∉F):F9 w' v:=by
 obtain⟨v1,v2,v3,v4,v5,rfl,g1,g2,g3,g4,g5⟩:=h;obtain⟨q1,r1,s1⟩:=IJ g1 (by simp only [jH,List.length_map,zI]; omega);obtain⟨q2,r2,s2⟩:=IJ g2 (by rw [sV,show dA.length=908 by decide +kernel]; omega);obtain⟨q3,r3,s3⟩:=IJ g3 (by rw [show(bools kR).length=kR.length by simp [bools],show kR.length=908 by decide +kernel]; omega);obtain⟨q4,r4,s4⟩:=IJ g4 (by rw [sU]; decide);obtain⟨q5,r5,s5⟩:=IJ g5 (by rw [sU,show dZ.length=32 by decide +kernel]; omega);have key:∀ u∈[v1,v2,v3,v4,v5],∀ b,Xi.dU u=some b->b∉F:=fun u hu b hb=>hF _ (List.mem_filterMap.2 ⟨u,hu,hb⟩);exact⟨v1,v2,v3,v4,v5,rfl,g1.aj hc (fun A n c e=>by rw [s1 A n c e]; exact key v1 (by simp) _ r1),g2.aj hc (fun A n c e=>by rw [s2 A n c e]; exact key v2 (by simp) _ r2),g3.aj hc (fun A n c e=>by rw [s3 A n c e]; exact key v3 (by simp) _ r3),g4.aj hc (fun A n c e=>by rw [s4 A n c e]; exact key v4 (by simp) _ r4),g5.aj hc (fun A n c e=>by rw [s5 A n c e]; exact key v5 (by simp) _ r5)⟩
theorem adK{w:World}(hg:oh w){vc vd:Value}(hs:Sl w vc (jH ((wordsOf aY 2921).map fun n:Nat=>(n:Int))))(hd:Sl w vd (bG dA)) :
 Calls Tryz.prog 23 #[vc,vd] w fun e w'=>∃ c F,e=.returned (.tuple #[.pointer (some ⟨c,0,none⟩),.int .i64 0])/\ah w w' []/\FC w' c st0 kZ F/\∀ k∈F,w.heap.size<=k:=by
 obtain⟨A,cc,rfl,_⟩:=id hs;obtain⟨A2,cd,rfl,_⟩:=id hd;have e1:(jH ((wordsOf aY 2921).map fun n:Nat=>(n:Int))).length=(wordsOf aY 2921).length:=by simp only [jH,List.length_map]
 rw [e1] at hs ⊢;rw [sV] at hd ⊢;refine(acP hg A A2 cc cd (wordsOf aY 2921) dA hs hd am8 am9 (by rw [zI]; decide) (by decide)).mono ?_;rintro e w' ⟨c,F,rfl,hc,hk,hF⟩;exact⟨c,F,rfl,hc,⟨FY,by rw [JQ]; exact hk,adJ⟩,hF⟩
theorem aoj(x0 x1 x2 x3 x4 x5 x6 x7 x8 x9 x10 x11 x12 x13 x14 x15 x16 x17 x18 x19:Int)(mem:List Wd)(hl:mem.length=908):([kW x0,kW x1,kW x2,kW x3,kW x4,kW x5,kW x6,kW x7,kW x8,kW x9,kW x10,kW x11,kW x12,kW x13,kW x14,kW x15,kW x16,kW x17,kW x18,kW x19]++mem.drop 20).map (·.v)=lg [0,1,2,3,4,5,6,7,8,9,10,11,12,13,14,15,16,17,18,19] [(kW x0).v,(kW x1).v,(kW x2).v,(kW x3).v,(kW x4).v,(kW x5).v,(kW x6).v,(kW x7).v,(kW x8).v,(kW x9).v,(kW x10).v,(kW x11).v,(kW x12).v,(kW x13).v,(kW x14).v,(kW x15).v,(kW x16).v,(kW x17).v,(kW x18).v,(kW x19).v] (mem.map (·.v)):=by
 match mem,hl with
 | m0::m1::m2::m3::m4::m5::m6::m7::m8::m9::m10::m11::m12::m13::m14::m15::m16::m17::m18::m19::t,_=>(show _=_; kernel_rfl)
theorem KC:0<=nS fA/\nS fA<=100000:=by
 have h:=Fh fA anr;rw [FN] at h;omega
theorem Yd{w:World}(hg:oh w){c:Nat}{x:Xi.St}{s:CS}{F:List Nat}(h:FC w c x s F)(hx:x.right){v vin:Value}(him:F9 w v)(yF:∀ k∈vI v,k∉F){l:List Nat}(hl:l.length=20)(hb:∀ y∈l,y<256)(hin:Sl w vin (bG (l.map fun n:Nat=>(n:Int))))(hfin:∀ k,Xi.dU vin=some k->k∉F) :
 Calls Tryz.prog 34 #[.pointer (some ⟨c,0,none⟩),v,vin] w fun e w'=>∃ u F' s',e=.returned u/\ah w w' F/\Sub F' F w/\FC w' c (x.next l) s' F'/\FZ s'/\w'.ownsRow w.heap.size 21 1 u 32 (bG (((x.next l).frame (jT l)).map fun n:Nat=>(n:Int))):=by
 obtain⟨mem,h1,h2⟩:=h
 match l,hl with
 | [x0,x1,x2,x3,x4,x5,x6,x7,x8,x9,x10,x11,x12,x13,x14,x15,x16,x17,x18,x19],_ =>
  obtain⟨N,m',hN,hr,hst,hks,hv,hm'⟩:=ajg h2 (kW (x0:Int)) (kW (x1:Int)) (kW (x2:Int)) (kW (x3:Int)) (kW (x4:Int)) (kW (x5:Int)) (kW (x6:Int)) (kW (x7:Int)) (kW (x8:Int)) (kW (x9:Int)) (kW (x10:Int)) (kW (x11:Int)) (kW (x12:Int)) (kW (x13:Int)) (kW (x14:Int)) (kW (x15:Int)) (kW (x16:Int)) (kW (x17:Int)) (kW (x18:Int)) (kW (x19:Int));obtain⟨f1,f2⟩:=adI hx x0 x1 x2 x3 x4 x5 x6 x7 x8 x9 x10 x11 x12 x13 x14 x15 x16 x17 x18 x19 hb;rw [f1] at hm';have hf:=Bq (x.next [x0,x1,x2,x3,x4,x5,x6,x7,x8,x9,x10,x11,x12,x13,x14,x15,x16,x17,x18,x19]) (IC [x0,x1,x2,x3,x4,x5,x6,x7,x8,x9,x10,x11,x12,x13,x14,x15,x16,x17,x18,x19]);have hfl:=Xi.iQ (x.next [x0,x1,x2,x3,x4,x5,x6,x7,x8,x9,x10,x11,x12,x13,x14,x15,x16,x17,x18,x19]) (jT [x0,x1,x2,x3,x4,x5,x6,x7,x8,x9,x10,x11,x12,x13,x14,x15,x16,x17,x18,x19]);have hbv:∀ y∈[x0,x1,x2,x3,x4,x5,x6,x7,x8,x9,x10,x11,x12,x13,x14,x15,x16,x17,x18,x19],(kW ((y:Nat):Int)).v=(y:Int):=fun y hy=>dX (by have:=hb y hy; omega);have hp:=aoj (x0:Int) (x1:Int) (x2:Int) (x3:Int) (x4:Int) (x5:Int) (x6:Int) (x7:Int) (x8:Int) (x9:Int) (x10:Int) (x11:Int) (x12:Int) (x13:Int) (x14:Int) (x15:Int) (x16:Int) (x17:Int) (x18:Int) (x19:Int) mem h2.len;rw [hbv x0 (by simp),hbv x1 (by simp),hbv x2 (by simp),hbv x3 (by simp),hbv x4 (by simp),hbv x5 (by simp),hbv x6 (by simp),hbv x7 (by simp),hbv x8 (by simp),hbv x9 (by simp),hbv x10 (by simp),hbv x11 (by simp),hbv x12 (by simp),hbv x13 (by simp),hbv x14 (by simp),hbv x15 (by simp),hbv x16 (by simp),hbv x17 (by simp),hbv x18 (by simp),hbv x19 (by simp)] at hp;have hws:(mem.map (·.v)).length=908:=by rw [List.length_map,h2.len]
  refine(Yb h1 hg him yF hin hfin (Nat.le_refl _) (fun a ha=>by rw [hws]; simp at ha; omega) (by decide) (by decide) hp hr hst (by rw [zI]; decide) (by omega) (vals:=((x.next [x0,x1,x2,x3,x4,x5,x6,x7,x8,x9,x10,x11,x12,x13,x14,x15,x16,x17,x18,x19]).frame (jT [x0,x1,x2,x3,x4,x5,x6,x7,x8,x9,x10,x11,x12,x13,x14,x15,x16,x17,x18,x19])).map fun n:Nat=>(n:Int)) (by rw [List.length_map,hfl]; rfl) (fun j a y hj hy=>?_)).mono ?_
  . rw [List.getElem?_map] at hy
    cases hq:((x.next [x0,x1,x2,x3,x4,x5,x6,x7,x8,x9,x10,x11,x12,x13,x14,x15,x16,x17,x18,x19]).frame (jT [x0,x1,x2,x3,x4,x5,x6,x7,x8,x9,x10,x11,x12,x13,x14,x15,x16,x17,x18,x19]))[j]? with
    | none=>rw [hq] at hy; cases hy
    | some z =>
     rw [hq] at hy;injection hy with hy;subst hy;have hz:=hv j a (kW (z:Int)) hj (by rw [f2]; unfold Bc; rw [List.getElem?_map,hq]; rfl);show(m'.mm.map (·.v))[a]?=_
     rw [List.getElem?_map,hz];exact congrArg some (dX (by have:=hf z (List.mem_of_getElem? hq); omega))
  . rintro e w' ⟨u,F',rfl,hc,hs,hk,ho⟩
    refine⟨u,F',jo m',rfl,hc,hs,⟨m'.mm,hk,hm'⟩,⟨?_,?_,?_⟩,ho⟩
    . show((m'.st:Nat):Int)=1
      rw [hst];rfl
    . show m'.ks.map Wv=_
      rw [hks]
    . show nS m'.ks=_
      rw [hks]
end

section
open Go Go.RowKit Go.Deep Go.Maps Ab Xi
attribute [local go_sem] Oper.semAt_some
def Rows(w:World)(v:Value)(ls:List (List Nat)):Prop:=∃ rs:List Value,Sl w v rs/\rs.length=ls.length/\∀(i:Nat) (r:Value) (b:List Nat),rs[i]?=some r->ls[i]?=some b->Sl w r (bU b)
structure asK (w:World) (base:Nat) (F:List Nat) (o:Value) (fs:List (List Nat)):Prop where
 row:∃ rs:List Value,w.ownsRow base 29 1 o rs.length rs/\rs.length=fs.length/\∀(i:Nat) (r:Value) (b:List Nat),rs[i]?=some r->fs[i]?=some b->Sl w r (bU b)/\∀ A n c,r=.slice (some A) n c->A.block∉F/\A.block<w.heap.size/\o.ownBlock≠some A.block
 far:∀ g,o.ownBlock=some g->g∉F
structure SFR (wr:World) (cc:Nat) (x:Xi.St) (l:List Nat) (F:List Nat) (base:Nat) (o:Value) (fs:List (List Nat)) (γ:Gh) (m:Nat) (w':World):Prop where
 aj:ah wr w' (F++o.ownBlock.toList)
 q4:m<=4->ah wr w' F
 q:m<=1->ah wr w' []
 s1:m=1->Sl w' (γ 4) (bG (l.map fun n:Nat=>(n:Int)))/\∀ A n c,γ 4=.slice (some A) n c->wr.heap.size<=A.block
 s2:2<=m->∃ F' s',Sub F' F wr/\FC w' cc (x.next l) s' F'/\FZ s'/\(m=2->Sl w' (γ 5) (bG (((x.next l).frame (jT l)).map fun n:Nat=>(n:Int))))/\(3<=m->Sl w' (γ 6) (bU ((x.next l).frame (jT l)))/\∀ A n c,γ 6=.slice (some A) n c->A.block∉F'/\A.block<w'.heap.size/\o.ownBlock≠some A.block)/\(m<=4->asK w' base F' o fs)/\(5<=m->asK w' base F' (γ 8) (fs++[(x.next l).frame (jT l)]))
 s4:m=4->∃ a,γ 7=.slice (some ⟨a,0,none⟩) 1 1/\aC w' a 29 [γ 6]
 s5:5<=m->∃ g c,γ 8=.slice (some ⟨g,0,none⟩) (fs.length+1) c
section
variable {wr w1 w2:World} {cc:Nat} {x:Xi.St} {l:List Nat} {F:List Nat} {base:Nat} {o:Value} {fs:List (List Nat)} {γ:Gh} {s:CS}
end
end

section
open Go Go.RowKit Go.Deep Go.Maps Ab Xi
attribute [local go_sem] Oper.semAt_some
theorem QA(w:World):Calls Tryz.prog 24 #[] w fun e w'=>e=.returned (.agg #[.int .i32 1073741824,.int .i32 0,.int .i32 0,.int .i32 0,.int .i64 0,.int .i64 0,.int .i64 0])/\ah w w' []:=by
 have h:bF (dn [] [] []) (aZ []) 200 24 [] []=some (.agg #[.int .i32 1073741824,.int .i32 0,.int .i32 0,.int .i32 0,.int .i64 0,.int .i64 0,.int .i64 0],[]):=by kernel_rfl
 exact aG _ h (fun v hv=>by cases hv) (fun ob hob=>by cases hob) w
theorem auJ{w:World}{A:Addr}{n c:Nat}{xs:List Value}(h:Sl w (.slice (some A) n c) xs)(hx:0<xs.length):A.block<w.heap.size:=by
 obtain⟨b,off,e,_,hb⟩:=h.at_ (k:=0) (u:=xs[0]'hx) (by simp);injection e with e;rw [e];exact hb
theorem ag8{x:Xi.St}(hr:x.right){xs:List Nat}(hl:xs.length=20)(hx:∀ y∈xs,y<256){v:Value}(w:World)(hw:gZ w)(hv:Sl w v (bU xs)) :
 Calls Tryz.prog 25 #[x.val,v] w fun e w'=>∃ A n c,e=.returned (.tuple #[(x.next xs).val,.slice (some A) n c,.int .i64 0])/\Sl w' (.slice (some A) n c) (bU ((x.next xs).frame (jT xs)))/\w.heap.size<=A.block/\ah w w' []:=by
 refine(ag7 hr hl hx w hw (List.range w.heap.size) (fun k hk=>List.mem_range.1 hk) hv).mono ?_;rintro e w' ⟨⟨sv,rfl,hs,hD⟩,hc⟩;obtain⟨A,c,rfl,_⟩:=id hs;obtain⟨b,off,rfl,_,_⟩:=hs.at_ (k:=0) (List.getElem?_eq_getElem (by rw [fD,Xi.iQ]; decide));exact⟨_,_,_,rfl,hs,by have:=hD _ _ _ rfl; rw [List.mem_range] at this; omega,hc⟩
end

section
open Go Go.RowKit Go.Deep Go.Maps Ab Xi
attribute [local go_sem] Oper.semAt_some
abbrev adM (p:Value) (a1 a2 a3 a4 a5:Option Addr) (n1 c1 n2 c2 n3 c3 n4 c4 n5 c5:Nat) (x:Xi.St) (ran:Bool) (cost:Int):List Value:=[p,.slice a1 n1 c1,.slice a2 n2 c2,.slice a3 n3 c3,.slice a4 n4 c4,.slice a5 n5 c5,.int .i32 x.q.a.v,.int .i32 x.q.b.v,.int .i32 x.q.c.v,.int .i32 x.q.d.v,.int .i64 x.s,.int .i64 x.f,.int .i64 x.g,.bool ran,.int .i64 cost]
abbrev wV (a1 a2 a3 a4 a5:Option Addr) (n1 c1 n2 c2 n3 c3 n4 c4 n5 c5:Nat):Value:=.agg #[.slice a1 n1 c1,.slice a2 n2 c2,.slice a3 n3 c3,.slice a4 n4 c4,.slice a5 n5 c5]
def vJ(n:Nat):Int:=(n:Int)*nS fA
theorem aok {n:Nat} (h:n<=100):0<=vJ n/\vJ n<=10000000:=by
 have hs:=KC;have h1:0<=(n:Int)*nS fA:=Int.mul_nonneg (by omega) hs.1;have h2:(n:Int)*nS fA<=100*100000:=Int.mul_le_mul (by omega) hs.2 hs.1 (by omega);unfold vJ;omega
theorem ako(n:Nat):vJ (n+1)=vJ n+nS fA:=by
 unfold vJ
 push_cast
 rw [Int.add_mul,Int.one_mul]
structure fH (w:World) (d c:Nat) (x:Xi.St) (s:CS) (ran:Bool) (n:Nat) (F I:List Nat):Prop where
 ex:∃(a1 a2 a3 a4 a5:Option Addr) (n1 c1 n2 c2 n3 c3 n4 c4 n5 c5:Nat),aC w d 89 (adM (.pointer (some ⟨c,0,none⟩)) a1 a2 a3 a4 a5 n1 c1 n2 c2 n3 c3 n4 c4 n5 c5 x ran (vJ n))/\F9 w (wV a1 a2 a3 a4 a5 n1 c1 n2 c2 n3 c3 n4 c4 n5 c5)/\vI (wV a1 a2 a3 a4 a5 n1 c1 n2 c2 n3 c3 n4 c4 n5 c5)=I
 core:FC w c x s F
 done:ran=true->FZ s
 right:x.right
 sep:∀ k∈I,k∉F/\k≠d
 out:d∉F
 high:11<=d
 few:n<=100
section
variable {w w':World} {d c:Nat} {x:Xi.St} {s:CS} {ran:Bool} {n:Nat} {F I D:List Nat}
theorem fH.aj (h:fH w d c x s ran n F I) (hc:ah w w' D) (hd:d∉D) (hF:∀ k∈F,k∉D) (hI:∀ k∈I,k∉D) (hG:∀ k∈D,11<=k):fH w' d c x s ran n F I where
 ex:=by
  obtain⟨a1,a2,a3,a4,a5,n1,c1,n2,c2,n3,c3,n4,c4,n5,c5,h1,h2,h3⟩:=h.ex;exact⟨a1,a2,a3,a4,a5,n1,c1,n2,c2,n3,c3,n4,c4,n5,c5,h1.aj hc hd,qY h2 hc (fun k hk=>hI k (h3▸hk)),h3⟩
 core:=h.core.aj hc hF hG
 done:=h.done
 right:=h.right
 sep:=h.sep
 out:=h.out
 high:=h.high
 few:=h.few
theorem fH.bJ (h:fH w d c x s ran n F I) (hc:ah w w' []):fH w' d c x s ran n F I:=h.aj hc (by simp) (by simp) (by simp) (by simp)
theorem fH.lt(h:fH w d c x s ran n F I):d<w.heap.size/\(∀ k∈F,k<w.heap.size)/\∀ k∈I,k<w.heap.size:=by
 obtain⟨a1,a2,a3,a4,a5,n1,c1,n2,c2,n3,c3,n4,c4,n5,c5,h1,h2,h3⟩:=h.ex;exact⟨h1.lt,h.core.lt,fun k hk=>JR h2 k (h3▸hk)⟩
theorem tC(h:fH w d c x s ran n F I):Calls Tryz.prog 41 #[.pointer (some ⟨d,0,none⟩)] w fun e w'=>e=.returned (.bool true)/\w=w':=by
 obtain⟨a1,a2,a3,a4,a5,n1,c1,n2,c2,n3,c3,n4,c4,n5,c5,h1,_⟩:=h.ex;have z0:=h1.cell' (i:=0) rfl;have hl:=h1.lt;clear h1 h;go_enter Tryz.func41,Tryz.ntmps41
 go_wp2;go_ret;exact⟨rfl,rfl⟩
theorem yj:Calls Tryz.prog 41 #[.pointer none] w fun e w'=>e=.returned (.bool false)/\w=w':=by
 go_enter Tryz.func41,Tryz.ntmps41
 go_wp2;go_ret;exact⟨rfl,rfl⟩
theorem IQ(h:w.cell? ⟨d,0,none⟩=some (.pointer none)):Calls Tryz.prog 41 #[.pointer (some ⟨d,0,none⟩)] w fun e w'=>e=.returned (.bool false)/\w=w':=by
 go_enter Tryz.func41,Tryz.ntmps41
 go_wp2;go_ret;exact⟨rfl,rfl⟩
theorem O6{p:Value}(hv:Calls Tryz.prog 41 #[p] w fun e w'=>e=.returned (.bool false)/\w=w'):Calls Tryz.prog 38 #[p] w fun e w'=>e=.returned (.int .i64 0)/\w=w':=by
 go_enter Tryz.func38,Tryz.ntmps38
 go_wp2_with fail
 go_at_call 41;refine hv.mono ?_;rintro e w1 ⟨rfl,rfl⟩;go_wp2;go_ret;exact⟨rfl,rfl⟩
theorem KD{p:Value}(hv:Calls Tryz.prog 41 #[p] w fun e w'=>e=.returned (.bool false)/\w=w'):Calls Tryz.prog 39 #[p] w fun e w'=>e=.returned (.slice none 0 0)/\w=w':=by
 go_enter Tryz.func39,Tryz.ntmps39
 go_wp2_with fail
 go_at_call 41;refine hv.mono ?_;rintro e w1 ⟨rfl,rfl⟩;go_wp2;go_ret;exact⟨rfl,rfl⟩
theorem KF{p:Value}(hv:Calls Tryz.prog 41 #[p] w fun e w'=>e=.returned (.bool false)/\w=w'):Calls Tryz.prog 19 #[p] w fun e w'=>e=.returned (.int .i64 1)/\w=w':=by
 go_enter Tryz.func19,Tryz.ntmps19
 go_wp2_with fail
 go_at_call 41;refine hv.mono ?_;rintro e w1 ⟨rfl,rfl⟩;go_wp2;go_ret;exact⟨rfl,rfl⟩
theorem O7{p v:Value}(hv:Calls Tryz.prog 41 #[p] w fun e w'=>e=.returned (.bool false)/\w=w'):Calls Tryz.prog 18 #[p,v] w fun e w'=>e=.returned (.tuple #[.slice none 0 0,.int .i64 1])/\w=w':=by
 go_enter Tryz.func18,Tryz.ntmps18
 go_wp2_with fail
 go_at_call 41;refine hv.mono ?_;rintro e w1 ⟨rfl,rfl⟩;go_wp2;go_ret2;exact⟨rfl,rfl⟩
theorem KH{p:Value}(hv:∀ w1,ah w w1 []->Calls Tryz.prog 41 #[p] w1 fun e w'=>e=.returned (.bool false)/\w1=w'):Calls Tryz.prog 20 #[p] w fun e w'=>e=.returned (.agg #[.int .i32 0,.int .i32 0,.int .i32 0,.int .i32 0,.int .i64 0,.int .i64 0,.int .i64 0])/\ah w w' []:=by
 have hq:=aC.new w 46 [.int .i32 0,.int .i32 0,.int .i32 0,.int .i32 0,.int .i64 0,.int .i64 0,.int .i64 0];have hc:=(ah.refl w []).alloc (.cells #[.int .i32 0,.int .i32 0,.int .i32 0,.int .i32 0,.int .i64 0,.int .i64 0,.int .i64 0] 46);have hv:=hv _ hc;have f0:=hq.frozen 0;have q0:=hq.cell' (i:=0) rfl;have f1:=hq.frozen 1;have q1:=hq.cell' (i:=1) rfl;have f2:=hq.frozen 2;have q2:=hq.cell' (i:=2) rfl;have f3:=hq.frozen 3;have q3:=hq.cell' (i:=3) rfl;have f4:=hq.frozen 4;have q4:=hq.cell' (i:=4) rfl;have f5:=hq.frozen 5;have q5:=hq.cell' (i:=5) rfl;have f6:=hq.frozen 6;have q6:=hq.cell' (i:=6) rfl;go_enter Tryz.func20,Tryz.ntmps20
 go_wp2_with fail
 go_at_call 41;refine hv.mono ?_;rintro e w2 ⟨rfl,rfl⟩;go_wp2;refine bodyPost_ret (v:=.agg #[.int .i32 0,.int .i32 0,.int .i32 0,.int .i32 0,.int .i64 0,.int .i64 0,.int .i64 0]) (results_cell_row rfl _ _ w.heap.size 46 _ (0,0) _ rfl (aC.new w 46 [.int .i32 0,.int .i32 0,.int .i32 0,.int .i32 0,.int .i64 0,.int .i64 0,.int .i64 0]) Tryz.underlying46 rfl (by kernel_rfl)) rfl ⟨rfl,(ah.refl w []).alloc _⟩
theorem Bv(h:fH w d c x s ran n F I):Calls Tryz.prog 20 #[.pointer (some ⟨d,0,none⟩)] w fun e w'=>e=.returned x.val/\ah w w' []:=by
 have hq:=aC.new w 46 [.int .i32 0,.int .i32 0,.int .i32 0,.int .i32 0,.int .i64 0,.int .i64 0,.int .i64 0];have hc:=(ah.refl w []).alloc (.cells #[.int .i32 0,.int .i32 0,.int .i32 0,.int .i32 0,.int .i64 0,.int .i64 0,.int .i64 0] 46);have hv:=tC (h.bJ hc);obtain⟨a1,a2,a3,a4,a5,n1,c1,n2,c2,n3,c3,n4,c4,n5,c5,h1,_⟩:=(h.bJ hc).ex;have f0:=hq.frozen 0;have q0:=hq.cell' (i:=0) rfl;have z0:=h1.cell' (i:=6) rfl;have f1:=hq.frozen 1;have q1:=hq.cell' (i:=1) rfl;have z1:=h1.cell' (i:=7) rfl;have f2:=hq.frozen 2;have q2:=hq.cell' (i:=2) rfl;have z2:=h1.cell' (i:=8) rfl;have f3:=hq.frozen 3;have q3:=hq.cell' (i:=3) rfl;have z3:=h1.cell' (i:=9) rfl;have f4:=hq.frozen 4;have q4:=hq.cell' (i:=4) rfl;have z4:=h1.cell' (i:=10) rfl;have f5:=hq.frozen 5;have q5:=hq.cell' (i:=5) rfl;have z5:=h1.cell' (i:=11) rfl;have f6:=hq.frozen 6;have q6:=hq.cell' (i:=6) rfl;have z6:=h1.cell' (i:=12) rfl;have hl:=h1.lt;clear h1 h;show Calls Tryz.prog 20 #[.pointer (some ⟨d,0,none⟩)] w fun e w'=>e=.returned (.agg #[.int .i32 x.q.a.v,.int .i32 x.q.b.v,.int .i32 x.q.c.v,.int .i32 x.q.d.v,.int .i64 x.s,.int .i64 x.f,.int .i64 x.g])/\ah w w' [];go_enter Tryz.func20,Tryz.ntmps20
 go_wp2_with fail
 go_at_call 41;refine hv.mono ?_;rintro e w2 ⟨rfl,rfl⟩;go_wp2;refine bodyPost_ret (v:=.agg #[.int .i32 x.q.a.v,.int .i32 x.q.b.v,.int .i32 x.q.c.v,.int .i32 x.q.d.v,.int .i64 x.s,.int .i64 x.f,.int .i64 x.g]) (results_cell_row rfl _ _ w.heap.size 46 _ (0,0) _ rfl (aC.new w 46 [.int .i32 x.q.a.v,.int .i32 x.q.b.v,.int .i32 x.q.c.v,.int .i32 x.q.d.v,.int .i64 x.s,.int .i64 x.f,.int .i64 x.g]) Tryz.underlying46 rfl (by kernel_rfl)) rfl ⟨rfl,(ah.refl w []).alloc _⟩
theorem Ye(h:fH w d c x s true n F I):Calls Tryz.prog 39 #[.pointer (some ⟨d,0,none⟩)] w fun e w'=>∃ v',e=.returned v'/\ah w w' []/\w'.ownsRow w.heap.size 82 3 v' fA.length (ig (fA.map Wv)):=by
 have hv:=tC h;have hd:=h.done rfl;obtain⟨mem,hk,_⟩:=h.core;have hmk:=W9 hk (by rw [hd.2.1,List.length_map,FN]; omega) (by rw [hd.2.1,List.length_map,FN]; omega);rw [hd.2.1,List.length_map] at hmk;obtain⟨a1,a2,a3,a4,a5,n1,c1,n2,c2,n3,c3,n4,c4,n5,c5,h1,_⟩:=h.ex;have z0:=h1.cell' (i:=0) rfl;have z1:=h1.cell' (i:=13) rfl;have hl:=h1.lt;have HM:=hide hmk;clear h1 h hk hd hmk;go_enter Tryz.func39,Tryz.ntmps39
 go_wp2_with fail
 go_at_call 41;refine hv.mono ?_;rintro e w1 ⟨rfl,rfl⟩;go_wp2_with fail
 go_at_call 31;refine HM.out.mono ?_;rintro e w2 ⟨v',rfl,hc,ho⟩;have HC:=hide hc;have HO:=hide ho;clear hc ho HM;go_wp2;go_ret;exact⟨_,rfl,HC.out,HO.out⟩
end
theorem IU(w:World):Calls Tryz.prog 72 #[] w fun e w'=>e=.returned st0.val/\ah w w' []:=by
 have hq:=aC.new w 46 [.int .i32 0,.int .i32 0,.int .i32 0,.int .i32 0,.int .i64 0,.int .i64 0,.int .i64 0];have hc:=(ah.refl w []).alloc (.cells #[.int .i32 0,.int .i32 0,.int .i32 0,.int .i32 0,.int .i64 0,.int .i64 0,.int .i64 0] 46);have f0:=hq.frozen 0;have q0:=hq.cell' (i:=0) rfl;have f1:=hq.frozen 1;have q1:=hq.cell' (i:=1) rfl;have f2:=hq.frozen 2;have q2:=hq.cell' (i:=2) rfl;have f3:=hq.frozen 3;have q3:=hq.cell' (i:=3) rfl;have f4:=hq.frozen 4;have q4:=hq.cell' (i:=4) rfl;have f5:=hq.frozen 5;have q5:=hq.cell' (i:=5) rfl;have f6:=hq.frozen 6;have q6:=hq.cell' (i:=6) rfl;rw [JO];go_enter Tryz.func72,Tryz.ntmps72
 go_wp2;refine bodyPost_ret (v:=.agg #[.int .i32 1073741824,.int .i32 0,.int .i32 0,.int .i32 0,.int .i64 0,.int .i64 0,.int .i64 0]) (results_cell_row rfl _ _ w.heap.size 46 _ (0,0) _ rfl (aC.new w 46 [.int .i32 1073741824,.int .i32 0,.int .i32 0,.int .i32 0,.int .i64 0,.int .i64 0,.int .i64 0]) Tryz.underlying46 rfl (by kernel_rfl)) rfl ⟨rfl,(ah.refl w []).alloc _⟩
theorem yt:dA.length=908:=by rw [<- JQ,List.length_map,Sj]
theorem CQ:(kW 1073741824).v=1073741824/\(kW 0).v=0:=⟨by decide +kernel,by decide +kernel⟩
theorem ag9{v:Value}{k:Nat}(h:Xi.dU v=some k):∃ A m q,v=.slice (some A) m q/\A.block=k:=by
 unfold Xi.dU at h;split at h
 . injection h with h
   exact⟨_,_,_,rfl,h⟩
 . cases h
theorem Yf{w:World}{a1 a2 a3 a4 a5:Option Addr}{n1 c1 n2 c2 n3 c3 n4 c4 n5 c5:Nat}(h:F9 w (wV a1 a2 a3 a4 a5 n1 c1 n2 c2 n3 c3 n4 c4 n5 c5)):n2=908/\∀(j:Nat) (u:Value),(bG dA)[j]?=some u->∃ b off,a2=some ⟨b,off,Option.none⟩/\w.cell? ⟨b,off+j,Option.none⟩=some u/\b<w.heap.size:=by
 obtain⟨v1,v2,v3,v4,v5,e,g1,g2,g3,g4,g5⟩:=h;injection e with e;simp only [Array.mk.injEq,List.cons.injEq,and_true] at e;obtain⟨rfl,rfl,rfl,rfl,rfl⟩:=e;obtain⟨A,c,e,hx⟩:=zN g2;injection e with e1 e2 e3;subst e1;rw [sV,yt] at e2;exact⟨e2,hx⟩
theorem Yg{w:World}{a1 a2 a3 a4 a5:Option Addr}{n1 c1 n2 c2 n3 c3 n4 c4 n5 c5:Nat}(h:F9 w (wV a1 a2 a3 a4 a5 n1 c1 n2 c2 n3 c3 n4 c4 n5 c5)):Sl w (.slice a1 n1 c1) (jH ((wordsOf aY 2921).map fun n:Nat=>(n:Int)))/\Sl w (.slice a2 n2 c2) (bG dA):=by
 obtain⟨v1,v2,v3,v4,v5,e,g1,g2,g3,g4,g5⟩:=h;injection e with e;simp only [Array.mk.injEq,List.cons.injEq,and_true] at e;obtain⟨rfl,rfl,rfl,rfl,rfl⟩:=e;exact⟨g1,g2⟩
theorem aaT {b off:Nat} {a1 a3 a4 a5:Option Addr} {n1 c1 n2 c2 n3 c3 n4 c4 n5 c5:Nat}:b∈vI (wV a1 (some ⟨b,off,none⟩) a3 a4 a5 n1 c1 n2 c2 n3 c3 n4 c4 n5 c5) :=
 List.mem_filterMap.2 ⟨.slice (some ⟨b,off,none⟩) n2 c2,by simp,rfl⟩
theorem ag_ {w:World} {d c:Nat} {x:Xi.St} {s:CS} {ran:Bool} {n:Nat} {F I:List Nat} (hg:oh w) (h:fH w d c x s ran n F I) :
 Calls Tryz.prog 40 #[.pointer (some ⟨d,0,none⟩)] w fun e w'=>e=.returned (.tuple #[])/\ah w w' (d::F)/\∃ F',Sub F' F w/\fH w' d c st0 kZ false n F' I:=by
 obtain⟨a1,a2,a3,a4,a5,n1,c1,n2,c2,n3,c3,n4,c4,n5,c5,h1,h2,h3⟩:=h.ex;obtain⟨rfl,hx⟩:=Yf h2;obtain⟨mem,hk0,hm⟩:=h.core;have z0:=h1.cell' (i:=0) rfl;have z2:=h1.cell' (i:=2) rfl;have hl:=h1.lt;have HB:=hide h1;have RH:=hide h2;have HD:=hide h.out;have HX:=hide hx;have HXI:=hide (show ∀ b off,a2=some ⟨b,off,Option.none⟩->b∉F from fun b off e=>(h.sep b (by rw [<- h3,e]; exact aaT)).1);have HK:=hide (show ∃ ws,fK w c (wordsOf aY 2921) s ws F/\ws.length=908/\∀ i,i<0->ws[i]?=dA[i]? from⟨_,hk0,by rw [List.length_map,hm.len],fun i hi=>absurd hi (by omega)⟩);have H:=hide h;have HI:=hide h3;clear h1 h2 h3 hx hk0 hm h;go_enter Tryz.func40,Tryz.ntmps40
 go_wp2_with fail
 go_loopw [2,3,32] (fun _ _ i wr=>∃ j:Nat,j<=908/\i=.int .i64 j/\Hid (ah w wr F)/\Hid (∃ ws,fK wr c (wordsOf aY 2921) s ws F/\ws.length=908/\∀ i,i<j->ws[i]?=dA[i]?)) (fun _ _ i _=>908 - (intOf i).toNat)
 case atStart=>exact⟨0,Nat.zero_le _,rfl,hide (ah.refl w F),HK⟩
 case round =>
  clear HK;obtain⟨j,hj,rfl,HC,HK⟩:=hrel;have hb:=HB.out.aj HC.out HD.out;have z0:=hb.cell' (i:=0) rfl;have hl:=hb.lt;have HB1:=hide hb;obtain⟨ws,hk,hwl,hws⟩:=HK.out;have CU:=hide hws;by_cases hlt:j<908
  . obtain⟨y,hy⟩:∃ y,dA[j]?=some y:=⟨dA[j]'(by rw [yt]; exact hlt),by simp⟩
    obtain⟨bb,off,hA,hcl,hbl⟩:=HX.out j (.int .i32 y) (by simp [bG,hy]);have hcl':=HC.out.cell hcl (HXI.out bb off hA);have hpk:=Dn hk j y (by omega);have HY:=hide hy;have HWL:=hide hwl;subst hA;clear hb hk hwl hws hy hcl;go_wp2_with fail
    go_at_call 26;refine hpk.mono ?_;rintro e w2 ⟨rfl,hc2,hk2⟩;have HC2:=hide hc2;have jY:=hide hk2;clear hc2 hk2 hpk;go_wp2;go_roundw
    case rel=>exact⟨j+1,by omega,by go_num,hide (HC.out.trans HC2.out (fun k hk=>.inl hk)),hide ⟨_,jY.out,by rw [List.length_set]; exact HWL.out,fun i hi=>by
     by_cases e:i=j
     . subst e
       rw [List.getElem?_set_self (by have:=HWL.out; omega)];exact HY.out.symm
     . rw [List.getElem?_set_ne (by omega)]
       exact CU.out i (by omega)⟩⟩
    case measure=>simp [intOf]; omega
  . have hjl:j=908:=by omega
    subst hjl
    obtain rfl:ws=dA:=List.ext_getElem? fun i=>by
     by_cases hi:i<908
     . exact CU.out i hi
     . rw [List.getElem?_eq_none (by omega),List.getElem?_eq_none (by rw [yt]; omega)]
    have hbg:=Ba hk;clear hb hk hwl hws CU hlt hj;go_wp2_with fail
    go_at_call 27;refine hbg.mono ?_;rintro e w2 ⟨rfl,hc2,F2,hs2,hk2⟩;have hmr:=IU w2;rw [JO] at hmr;have HC2:=hide (show ah w w2 F from HC.out.trans hc2 (fun k hk=>.inl hk));have HB2:=hide (HB1.out.aj hc2 HD.out);have jY:=hide hk2;have HS2:=hide (show Sub F2 F w from fun k hk=>(hs2 k hk).imp_right (fun h=>Nat.le_trans HC.out.size h));have HD2:=hide (jP hs2 HD.out hl);clear hc2 hs2 hk2 hbg z0 hl HB1 HC HK;go_wp2_with fail
    go_at_call 72;refine hmr.mono ?_;rintro e w3 ⟨rfl,hc3⟩;have hb3:=HB2.out.aj hc3 (by simp);have hl:=hb3.lt;have f6:=hb3.frozen 6;have z6:=hb3.cell' (i:=6) rfl;have f7:=hb3.frozen 7;have z7:=hb3.cell' (i:=7) rfl;have f8:=hb3.frozen 8;have z8:=hb3.cell' (i:=8) rfl;have f9:=hb3.frozen 9;have z9:=hb3.cell' (i:=9) rfl;have f10:=hb3.frozen 10;have z10:=hb3.cell' (i:=10) rfl;have f11:=hb3.frozen 11;have z11:=hb3.cell' (i:=11) rfl;have f12:=hb3.frozen 12;have z12:=hb3.cell' (i:=12) rfl;have f13:=hb3.frozen 13;have z13:=hb3.cell' (i:=13) rfl;have jC:=hide (show ah w w3 F from HC2.out.trans hc3 (by simp));have Gp:=hide (show FC w3 c st0 kZ F2 from⟨FY,by rw [JQ]; exact jY.out.bJ hc3,adJ⟩);have HB3:=hide (show aC _ d 89 _ from((((((((hb3.aK 6 (.int .i32 1073741824)).aK 7 (.int .i32 0)).aK 8 (.int .i32 0)).aK 9 (.int .i32 0)).aK 10 (.int .i64 0)).aK 11 (.int .i64 0)).aK 12 (.int .i64 0)).aK 13 (.bool false)));have KI:=hide (show ah _ _ [d] from(((((((((ah.refl w3 [d]).setCell ⟨d,6,none⟩ (.int .i32 1073741824) (.inl (List.mem_singleton.2 rfl))).setCell ⟨d,7,none⟩ (.int .i32 0) (.inl (List.mem_singleton.2 rfl))).setCell ⟨d,8,none⟩ (.int .i32 0) (.inl (List.mem_singleton.2 rfl))).setCell ⟨d,9,none⟩ (.int .i32 0) (.inl (List.mem_singleton.2 rfl))).setCell ⟨d,10,none⟩ (.int .i64 0) (.inl (List.mem_singleton.2 rfl))).setCell ⟨d,11,none⟩ (.int .i64 0) (.inl (List.mem_singleton.2 rfl))).setCell ⟨d,12,none⟩ (.int .i64 0) (.inl (List.mem_singleton.2 rfl))).setCell ⟨d,13,none⟩ (.bool false) (.inl (List.mem_singleton.2 rfl))));clear hb3 hc3 hmr HC2 jY HB2;go_wp2;refine bodyPost_end (results_none rfl _ _ _) rfl ?_;have hcw:ah w _ (d::F):=(jC.out.more (D':=d::F) (fun k hk=>.inl (List.mem_cons_of_mem _ hk))).trans KI.out (fun k hk=>.inl (by simp at hk; simp [hk]));exact⟨rfl,hcw,F2,HS2.out,⟨⟨a1,a2,a3,a4,a5,n1,c1,908,c2,n3,c3,n4,c4,n5,c5,by unfold adM st0 q1; rw [CQ.1,CQ.2]; exact HB3.out,qY RH.out hcw (fun k hk=>by have:=H.out.sep k (HI.out▸hk); simp [this.1,this.2]),HI.out⟩,Gp.out.aj KI.out (fun k hk hm=>HD2.out (by simp at hm; exact hm▸hk)) (fun k hk=>by simp at hk; exact hk▸H.out.high),(fun h=>by cases h),IG,fun k hk=>⟨jP HS2.out (H.out.sep k hk).1 (H.out.lt.2.2 k hk),(H.out.sep k hk).2⟩,HD2.out,H.out.high,H.out.few⟩⟩
def vK (d:Nat) (a1 a2 a3 a4 a5:Option Addr) (n1 c1 n2 c2 n3 c3 n4 c4 n5 c5:Nat) (γ:Gh):Nat->Value
 | 0=>.pointer (some ⟨d,0,none⟩)
 | 1=>.pointer (some ⟨d,0,none⟩)
 | 2=>.pointer (some ⟨d,0,none⟩)
 | 3=>.pointer (some ⟨d,1,none⟩)
 | 4=>.pointer (some ⟨d,1,none⟩)
 | 5=>.slice a1 n1 c1
 | 6=>.pointer (some ⟨d,0,none⟩)
 | 7=>.pointer (some ⟨d,0,none⟩)
 | 8=>.pointer (some ⟨d,1,none⟩)
 | 9=>.pointer (some ⟨d,2,none⟩)
 | 10=>.slice a2 n2 c2
 | 11=>γ 11
 | 12=>γ 11
 | 13=>rZ (γ 11) 0
 | 14=>rZ (γ 11) 1
 | 15=>.pointer (some ⟨d,0,none⟩)
 | 16=>.pointer (some ⟨d,0,none⟩)
 | 17=>undef
 | _=>undef
theorem axu(d:Nat)(a1 a2 a3 a4 a5:Option Addr)(n1 c1 n2 c2 n3 c3 n4 c4 n5 c5:Nat)(γ:Gh)(v:Value):∀ j,j∉([11,12,13,14]:List Nat)->vK d a1 a2 a3 a4 a5 n1 c1 n2 c2 n3 c3 n4 c4 n5 c5 (upd γ 11 v) j=vK d a1 a2 a3 a4 a5 n1 c1 n2 c2 n3 c3 n4 c4 n5 c5 γ j:=fun j hj=>by
 match j,hj with
 | 0,_=>rfl
 | 1,_=>rfl
 | 2,_=>rfl
 | 3,_=>rfl
 | 4,_=>rfl
 | 5,_=>rfl
 | 6,_=>rfl
 | 7,_=>rfl
 | 8,_=>rfl
 | 9,_=>rfl
 | 10,_=>rfl
 | 11,hj=>exact absurd (by decide) hj
 | 12,hj=>exact absurd (by decide) hj
 | 13,hj=>exact absurd (by decide) hj
 | 14,hj=>exact absurd (by decide) hj
 | 15,_=>rfl
 | 16,_=>rfl
 | 17,_=>rfl
 | _+18,_=>rfl
theorem asM(v:Nat->Value)(t0 t1 t2 t3 t4 t5 t6 t7 t8 t9 t10 t11 t12 t13 t14 t15 t16 t17 t18 t19 t20 t21 t22 t23 t24 t25 t26 t27 t28 t29 t30 t31 t32 t33 t34 t35 t36 t37 t38 t39 t40 t41 t42 t43 t44 t45 t46 t47 t48 t49 t50 t51 t52 t53 t54 t55 t56:Value):oK v (some 10::some 11::some 12::some 13::some 14::some 15::some 16::some 17::some 18::some 19::some 20::some 21::some 9::some 22::some 23::some 24::some 25::none::[]) 0 (t0::t1::t2::t3::t4::t5::t6::t7::t8::t9::t10::t11::t12::t13::t14::t15::t16::t17::t18::t19::t20::t21::t22::t23::t24::t25::t26::t27::t28::t29::t30::t31::t32::t33::t34::t35::t36::t37::t38::t39::t40::t41::t42::t43::t44::t45::t46::t47::t48::t49::t50::t51::t52::t53::t54::t55::t56::[])=(t0::t1::t2::t3::t4::t5::t6::t7::t8::v 12::v 0::v 1::v 2::v 3::v 4::v 5::v 6::v 7::v 8::v 9::v 10::v 11::v 13::v 14::v 15::v 16::t26::t27::t28::t29::t30::t31::t32::t33::t34::t35::t36::t37::t38::t39::t40::t41::t42::t43::t44::t45::t46::t47::t48::t49::t50::t51::t52::t53::t54::t55::t56::[]):=by kernel_rfl
def r_ (wr:World) (d:Nat) (a1 a2 a3 a4 a5:Option Addr) (n1 c1 n2 c2 n3 c3 n4 c4 n5 c5:Nat) (γ:Gh) (b11 b17:Bool) (w':World):Prop :=
 ah wr w' [d]/\aC w' d 89 (bif b17 then [rZ (γ 11) 0,.slice a1 n1 c1,.slice a2 n2 c2,.slice a3 n3 c3,.slice a4 n4 c4,.slice a5 n5 c5,.int .i32 0,.int .i32 0,.int .i32 0,.int .i32 0,.int .i64 0,.int .i64 0,.int .i64 0,.bool false,.int .i64 0] else [.pointer none,.slice a1 n1 c1,.slice a2 n2 c2,.slice a3 n3 c3,.slice a4 n4 c4,.slice a5 n5 c5,.int .i32 0,.int .i32 0,.int .i32 0,.int .i32 0,.int .i64 0,.int .i64 0,.int .i64 0,.bool false,.int .i64 0])/\(b11=true->∃ c F,γ 11=.tuple #[.pointer (some ⟨c,0,none⟩),.int .i64 0]/\FC w' c st0 kZ F/\(∀ k∈F,wr.heap.size<=k))/\(b11=false->b17=false)
theorem akp {w:World} {d:Nat} {a1 a2 a3 a4 a5:Option Addr} {n1 c1 n2 c2 n3 c3 n4 c4 n5 c5:Nat} (hg:oh w) (hb:aC w d 89 [.pointer none,.slice a1 n1 c1,.slice a2 n2 c2,.slice a3 n3 c3,.slice a4 n4 c4,.slice a5 n5 c5,.int .i32 0,.int .i32 0,.int .i32 0,.int .i32 0,.int .i64 0,.int .i64 0,.int .i64 0,.bool false,.int .i64 0]) (him:F9 w (wV a1 a2 a3 a4 a5 n1 c1 n2 c2 n3 c3 n4 c4 n5 c5)) (hI:∀ k∈vI (wV a1 a2 a3 a4 a5 n1 c1 n2 c2 n3 c3 n4 c4 n5 c5),k≠d) (hq:11<=d) :
 Calls Tryz.prog 40 #[.pointer (some ⟨d,0,none⟩)] w fun e w'=>e=.returned (.tuple #[])/\ah w w' [d]/\∃ c F,fH w' d c st0 kZ false 0 F (vI (wV a1 a2 a3 a4 a5 n1 c1 n2 c2 n3 c3 n4 c4 n5 c5))/\∀ k∈F,w.heap.size<=k:=by
 have fG:=hide (show Tryz.prog.follows .mixedOrders=true by kernel_rfl);have HNW:=hide (show ∀ w1,ah w w1 [d]->_ from fun w1 hc=>adK (hg.aj hc (fun k hk=>by simp at hk; exact hk▸hq)) (Yg (qY him hc (fun k hk hm=>hI k hk (by simpa using hm)))).1 (Yg (qY him hc (fun k hk hm=>hI k hk (by simpa using hm)))).2);have HB0:=hide hb;have adN:=hide him;have HIL:=hide (JR him);have HDI:=hide hI;have HDQ:=hide hq;have HDL:=hide hb.lt;have z0:=hb.cell' (i:=0) rfl;have hl:=hb.lt;clear hb him hI hq hg;go_enter Tryz.func40,Tryz.ntmps40
 go_wp2_with fail
 go_upto_region 1 with(fail)
 refine iC fG.out _ _ (fun γ=>vK d a1 a2 a3 a4 a5 n1 c1 n2 c2 n3 c3 n4 c4 n5 c5 γ) (fun(γ:Gh) L w'=>r_ w d a1 a2 a3 a4 a5 n1 c1 n2 c2 n3 c3 n4 c4 n5 c5 γ (L 11) (L 17) w') (fun _=>undef) (by kernel_rfl) [] (by kernel_rfl) (fun p hp γ=>by simp at hp) (by kernel_rfl) ?step ?start ?fin ?ext
 case start=>exact⟨(ah.refl w [d]).drew,HB0.out.aj (ah.refl w []).drew (by simp),(fun h=>by cases h),fun _=>rfl⟩
 case ext =>
  intro γ L L' w' h hw;have hw':r_ w d a1 a2 a3 a4 a5 n1 c1 n2 c2 n3 c3 n4 c4 n5 c5 γ (L 11) (L 17) w':=hw;rw [h 11 (by decide),h 17 (by decide)] at hw';exact hw'
 case step =>
  intro i o_ ho_ L av w1 γ hdn ak hW hL hpre K' Q' hK;have hW:r_ w d a1 a2 a3 a4 a5 n1 c1 n2 c2 n3 c3 n4 c4 n5 c5 γ (L 11) (L 17) w1:=hW
  match i,ho_ with
  | 0,ho =>
   injection ho with ho; subst ho;have b0:av.tmps.getD 0 undef=.pointer (some ⟨d,0,none⟩):=fM ak 0 (by kernel_rfl);clear ak;refine au ?_ (hK γ w1 (fun _ _=>rfl) (show r_ w d a1 a2 a3 a4 a5 n1 c1 n2 c2 n3 c3 n4 c4 n5 c5 γ (if(11:Nat)=0 then true else L 11) (if(17:Nat)=0 then true else L 17) _ from by rw [if_neg (by decide),if_neg (by decide)]; exact hW)); go_simp; rfl
  | 1,ho =>
   injection ho with ho; subst ho;have b0:av.tmps.getD 0 undef=.pointer (some ⟨d,0,none⟩):=fM ak 0 (by kernel_rfl);clear ak;refine au ?_ (hK γ w1 (fun _ _=>rfl) (show r_ w d a1 a2 a3 a4 a5 n1 c1 n2 c2 n3 c3 n4 c4 n5 c5 γ (if(11:Nat)=1 then true else L 11) (if(17:Nat)=1 then true else L 17) _ from by rw [if_neg (by decide),if_neg (by decide)]; exact hW)); go_simp; rfl
  | 2,ho =>
   injection ho with ho; subst ho;have s1:=aJ ak 11 1 (by kernel_rfl) (hpre ⟨1,.data⟩ (by simp) rfl);simp only [vK] at s1;clear ak;refine au ?_ (hK γ w1 (fun _ _=>rfl) (show r_ w d a1 a2 a3 a4 a5 n1 c1 n2 c2 n3 c3 n4 c4 n5 c5 γ (if(11:Nat)=2 then true else L 11) (if(17:Nat)=2 then true else L 17) _ from by rw [if_neg (by decide),if_neg (by decide)]; exact hW)); go_simp; rfl
  | 3,ho =>
   injection ho with ho; subst ho;have s2:=aJ ak 12 2 (by kernel_rfl) (hpre ⟨2,.data⟩ (by simp) rfl);simp only [vK] at s2;clear ak;refine au ?_ (hK γ w1 (fun _ _=>rfl) (show r_ w d a1 a2 a3 a4 a5 n1 c1 n2 c2 n3 c3 n4 c4 n5 c5 γ (if(11:Nat)=3 then true else L 11) (if(17:Nat)=3 then true else L 17) _ from by rw [if_neg (by decide),if_neg (by decide)]; exact hW)); go_simp; rfl
  | 4,ho =>
   injection ho with ho; subst ho;have s3:=aJ ak 13 3 (by kernel_rfl) (hpre ⟨3,.data⟩ (by simp) rfl);simp only [vK] at s3;clear ak;refine au ?_ (hK γ w1 (fun _ _=>rfl) (show r_ w d a1 a2 a3 a4 a5 n1 c1 n2 c2 n3 c3 n4 c4 n5 c5 γ (if(11:Nat)=4 then true else L 11) (if(17:Nat)=4 then true else L 17) _ from by rw [if_neg (by decide),if_neg (by decide)]; exact hW)); go_simp; rfl
  | 5,ho =>
   injection ho with ho; subst ho;have s4:=aJ ak 14 4 (by kernel_rfl) (hpre ⟨4,.data⟩ (by simp) rfl);simp only [vK] at s4;clear ak
   have n17:L 17=false:=by
    cases h:L 17 with
    | false=>rfl
    | true=>have hx:L 5=true:=(hdn 11 _ rfl (hdn 12 _ rfl (hdn 13 _ rfl (hdn 17 _ rfl h ⟨13,.data⟩ (by simp) rfl) ⟨12,.data⟩ (by simp) rfl) ⟨11,.data⟩ (by simp) rfl) ⟨5,.data⟩ (by simp) rfl); rw [hL] at hx; cases hx
   have hb:=hW.2.1;rw [n17] at hb;have hb:aC w1 d _ _:=hb;have hbl:=hb.lt;have y1:=hb.cell' (i:=1) rfl;refine au ?_ (hK γ w1 (fun _ _=>rfl) (show r_ w d a1 a2 a3 a4 a5 n1 c1 n2 c2 n3 c3 n4 c4 n5 c5 γ (if(11:Nat)=5 then true else L 11) (if(17:Nat)=5 then true else L 17) _ from by rw [if_neg (by decide),if_neg (by decide)]; exact hW)); go_simp; rfl
  | 6,ho =>
   injection ho with ho; subst ho;have b0:av.tmps.getD 0 undef=.pointer (some ⟨d,0,none⟩):=fM ak 0 (by kernel_rfl);clear ak;refine au ?_ (hK γ w1 (fun _ _=>rfl) (show r_ w d a1 a2 a3 a4 a5 n1 c1 n2 c2 n3 c3 n4 c4 n5 c5 γ (if(11:Nat)=6 then true else L 11) (if(17:Nat)=6 then true else L 17) _ from by rw [if_neg (by decide),if_neg (by decide)]; exact hW)); go_simp; rfl
  | 7,ho =>
   injection ho with ho; subst ho;have s6:=aJ ak 16 6 (by kernel_rfl) (hpre ⟨6,.data⟩ (by simp) rfl);simp only [vK] at s6;clear ak;refine au ?_ (hK γ w1 (fun _ _=>rfl) (show r_ w d a1 a2 a3 a4 a5 n1 c1 n2 c2 n3 c3 n4 c4 n5 c5 γ (if(11:Nat)=7 then true else L 11) (if(17:Nat)=7 then true else L 17) _ from by rw [if_neg (by decide),if_neg (by decide)]; exact hW)); go_simp; rfl
  | 8,ho =>
   injection ho with ho; subst ho;have s7:=aJ ak 17 7 (by kernel_rfl) (hpre ⟨7,.data⟩ (by simp) rfl);simp only [vK] at s7;clear ak;refine au ?_ (hK γ w1 (fun _ _=>rfl) (show r_ w d a1 a2 a3 a4 a5 n1 c1 n2 c2 n3 c3 n4 c4 n5 c5 γ (if(11:Nat)=8 then true else L 11) (if(17:Nat)=8 then true else L 17) _ from by rw [if_neg (by decide),if_neg (by decide)]; exact hW)); go_simp; rfl
  | 9,ho =>
   injection ho with ho; subst ho;have s8:=aJ ak 18 8 (by kernel_rfl) (hpre ⟨8,.data⟩ (by simp) rfl);simp only [vK] at s8;clear ak;refine au ?_ (hK γ w1 (fun _ _=>rfl) (show r_ w d a1 a2 a3 a4 a5 n1 c1 n2 c2 n3 c3 n4 c4 n5 c5 γ (if(11:Nat)=9 then true else L 11) (if(17:Nat)=9 then true else L 17) _ from by rw [if_neg (by decide),if_neg (by decide)]; exact hW)); go_simp; rfl
  | 10,ho =>
   injection ho with ho; subst ho;have s9:=aJ ak 19 9 (by kernel_rfl) (hpre ⟨9,.data⟩ (by simp) rfl);simp only [vK] at s9;clear ak
   have n17:L 17=false:=by
    cases h:L 17 with
    | false=>rfl
    | true=>have hx:L 10=true:=(hdn 11 _ rfl (hdn 12 _ rfl (hdn 13 _ rfl (hdn 17 _ rfl h ⟨13,.data⟩ (by simp) rfl) ⟨12,.data⟩ (by simp) rfl) ⟨11,.data⟩ (by simp) rfl) ⟨10,.data⟩ (by simp) rfl); rw [hL] at hx; cases hx
   have hb:=hW.2.1;rw [n17] at hb;have hb:aC w1 d _ _:=hb;have hbl:=hb.lt;have y2:=hb.cell' (i:=2) rfl;refine au ?_ (hK γ w1 (fun _ _=>rfl) (show r_ w d a1 a2 a3 a4 a5 n1 c1 n2 c2 n3 c3 n4 c4 n5 c5 γ (if(11:Nat)=10 then true else L 11) (if(17:Nat)=10 then true else L 17) _ from by rw [if_neg (by decide),if_neg (by decide)]; exact hW)); go_simp; rfl
  | 11,ho =>
   injection ho with ho; subst ho;have s5:=aJ ak 15 5 (by kernel_rfl) (hpre ⟨5,.data⟩ (by simp) rfl);have s10:=aJ ak 20 10 (by kernel_rfl) (hpre ⟨10,.data⟩ (by simp) rfl);simp only [vK] at s5 s10;clear ak
   have n17:L 17=false:=by
    cases h:L 17 with
    | false=>rfl
    | true=>have hx:L 11=true:=(hdn 12 _ rfl (hdn 13 _ rfl (hdn 17 _ rfl h ⟨13,.data⟩ (by simp) rfl) ⟨12,.data⟩ (by simp) rfl) ⟨11,.data⟩ (by simp) rfl); rw [hL] at hx; cases hx
   have hb:=hW.2.1;rw [n17] at hb;have hb:aC w1 d _ _:=hb;have hbl:=hb.lt;refine gU (f:=23) (args:=#[.slice a1 n1 c1,.slice a2 n2 c2]) ?_ (HNW.out w1 hW.1) ?_
   . go_simp
   . rintro e w2 ⟨c,F,rfl,hc2,hfc,hfr⟩
     exact ⟨_,rfl,hK (upd γ 11 (.tuple #[.pointer (some ⟨c,0,none⟩),.int .i64 0])) w2 (qW hdn [11,12,13,14] (by kernel_rfl) hL (axu d a1 a2 a3 a4 a5 n1 c1 n2 c2 n3 c3 n4 c4 n5 c5 γ _)) (show r_ w d a1 a2 a3 a4 a5 n1 c1 n2 c2 n3 c3 n4 c4 n5 c5 _ (if (11:Nat) = 11 then true else L 11) (if (17:Nat) = 11 then true else L 17) _ from by
      rw [if_pos rfl,if_neg (by decide),n17]
      exact⟨hW.1.trans hc2 (by simp),hb.aj hc2 (by simp),fun _=>⟨c,F,mX _ _ _,hfc,fun k hk=>Nat.le_trans hW.1.size (hfr k hk)⟩,fun h=>by cases h⟩)⟩
  | 12,ho =>
   injection ho with ho; subst ho;have s11:=aJ ak 21 11 (by kernel_rfl) (hpre ⟨11,.data⟩ (by simp) rfl);simp only [vK] at s11;clear ak;have s11:=s11;refine au ?_ (hK γ w1 (fun _ _=>rfl) (show r_ w d a1 a2 a3 a4 a5 n1 c1 n2 c2 n3 c3 n4 c4 n5 c5 γ (if(11:Nat)=12 then true else L 11) (if(17:Nat)=12 then true else L 17) _ from by rw [if_neg (by decide),if_neg (by decide)]; exact hW)); go_simp; rfl
  | 13,ho =>
   injection ho with ho; subst ho;have l12:=hpre ⟨12,.data⟩ (by simp) rfl;have s12:=aJ ak 9 12 (by kernel_rfl) l12;simp only [vK] at s12;clear ak;have l11:L 11=true:=hdn 12 _ rfl l12 ⟨11,.data⟩ (by simp) rfl;obtain⟨c,F,hf,_⟩:=hW.2.2.1 l11;rw [hf] at s12;refine au (v:=rZ (γ 11) 0) ?_ (hK γ w1 (fun _ _=>rfl) (show r_ w d a1 a2 a3 a4 a5 n1 c1 n2 c2 n3 c3 n4 c4 n5 c5 γ (if(11:Nat)=13 then true else L 11) (if(17:Nat)=13 then true else L 17) _ from by rw [if_neg (by decide),if_neg (by decide)]; exact hW)); rw [hf]; go_simp; first | done | rfl
  | 14,ho =>
   injection ho with ho; subst ho;have l12:=hpre ⟨12,.data⟩ (by simp) rfl;have s12:=aJ ak 9 12 (by kernel_rfl) l12;simp only [vK] at s12;clear ak;have l11:L 11=true:=hdn 12 _ rfl l12 ⟨11,.data⟩ (by simp) rfl;obtain⟨c,F,hf,_⟩:=hW.2.2.1 l11;rw [hf] at s12;refine au (v:=rZ (γ 11) 1) ?_ (hK γ w1 (fun _ _=>rfl) (show r_ w d a1 a2 a3 a4 a5 n1 c1 n2 c2 n3 c3 n4 c4 n5 c5 γ (if(11:Nat)=14 then true else L 11) (if(17:Nat)=14 then true else L 17) _ from by rw [if_neg (by decide),if_neg (by decide)]; exact hW)); rw [hf]; go_simp; first | done | rfl
  | 15,ho =>
   injection ho with ho; subst ho;have s0:=aJ ak 10 0 (by kernel_rfl) (hpre ⟨0,.data⟩ (by simp) rfl);simp only [vK] at s0;clear ak;refine au ?_ (hK γ w1 (fun _ _=>rfl) (show r_ w d a1 a2 a3 a4 a5 n1 c1 n2 c2 n3 c3 n4 c4 n5 c5 γ (if(11:Nat)=15 then true else L 11) (if(17:Nat)=15 then true else L 17) _ from by rw [if_neg (by decide),if_neg (by decide)]; exact hW)); go_simp; rfl
  | 16,ho =>
   injection ho with ho; subst ho;have s15:=aJ ak 24 15 (by kernel_rfl) (hpre ⟨15,.data⟩ (by simp) rfl);simp only [vK] at s15;clear ak;refine au ?_ (hK γ w1 (fun _ _=>rfl) (show r_ w d a1 a2 a3 a4 a5 n1 c1 n2 c2 n3 c3 n4 c4 n5 c5 γ (if(11:Nat)=16 then true else L 11) (if(17:Nat)=16 then true else L 17) _ from by rw [if_neg (by decide),if_neg (by decide)]; exact hW)); go_simp; rfl
  | 17,ho =>
   injection ho with ho; subst ho;have s16:=aJ ak 25 16 (by kernel_rfl) (hpre ⟨16,.data⟩ (by simp) rfl);have l13:=hpre ⟨13,.data⟩ (by simp) rfl;have s13:=aJ ak 22 13 (by kernel_rfl) l13;simp only [vK] at s16 s13;clear ak;have l12:L 12=true:=hdn 13 _ rfl l13 ⟨12,.data⟩ (by simp) rfl;have l11:L 11=true:=hdn 12 _ rfl l12 ⟨11,.data⟩ (by simp) rfl;obtain⟨c,F,hf,hfc,hfr⟩:=hW.2.2.1 l11;have hb:=hW.2.1;rw [show L 17=false from hL] at hb;have hb:aC w1 d _ _:=hb;have hbl:=hb.lt;have z0:=hb.cell' (i:=0) rfl;have f0:=hb.frozen 0;rw [hf,show rZ (.tuple #[.pointer (some ⟨c,0,none⟩),.int .i64 0]) 0=.pointer (some ⟨c,0,none⟩) from rfl] at s13;have hcc:=(ah.refl w1 [d]).setCell ⟨d,0,none⟩ (.pointer (some ⟨c,0,none⟩)) (.inl (List.mem_singleton.2 rfl))
   refine uf (w':=w1.setCell ⟨d,0,none⟩ (.pointer (some ⟨c,0,none⟩))) ?_ (hK γ _ (fun _ _=>rfl) (show r_ w d a1 a2 a3 a4 a5 n1 c1 n2 c2 n3 c3 n4 c4 n5 c5 γ (if(11:Nat)=17 then true else L 11) (if(17:Nat)=17 then true else L 17) _ from by
    rw [if_pos rfl,if_neg (by decide),l11];refine⟨hW.1.trans hcc (fun k hk=>.inl hk),?_,fun _=>⟨c,F,hf,hfc.aj hcc (fun k hk hm=>?_) (fun k hk=>?_),hfr⟩,fun h=>by cases h⟩
    . rw [hf]
      exact hb.aK 0 (.pointer (some ⟨c,0,none⟩))
    . have:=hfr k hk
      have:=HDL.out;simp at hm;omega
    . simp at hk
      rw [hk]
      exact HDQ.out))
   go_simp
  | _+18,ho=>cases ho
 case fin =>
 intro γ W1 hW;have hW:r_ w d a1 a2 a3 a4 a5 n1 c1 n2 c2 n3 c3 n4 c4 n5 c5 γ true true W1:=hW;obtain⟨c,F,hf,hfc,hfr⟩:=hW.2.2.1 rfl;have hb:=hW.2.1;rw [hf] at hb;have hb:aC W1 d 89 [.pointer (some ⟨c,0,none⟩),.slice a1 n1 c1,.slice a2 n2 c2,.slice a3 n3 c3,.slice a4 n4 c4,.slice a5 n5 c5,.int .i32 0,.int .i32 0,.int .i32 0,.int .i32 0,.int .i64 0,.int .i64 0,.int .i64 0,.bool false,.int .i64 0]:=hb;have hc1:=hW.1;have him:=qY adN.out hc1 (fun k hk hm=>HDI.out k hk (by simpa using hm));obtain⟨rfl,hx⟩:=Yf him;obtain⟨mem,hk0,hm⟩:=id hfc;rw [jc,gy,iM];simp only [List.map_cons,List.map_nil];rw [asM];simp only [vK];have z0:=hb.cell' (i:=0) rfl;have z2:=hb.cell' (i:=2) rfl;have hl:=hb.lt;have HB:=hide hb;have RH:=hide him;have bZ:=hide hc1;have HFR:=hide hfr;have HD:=hide (show d∉F from fun hm=>by have:=hfr d hm; have:=HDL.out; omega);have HX:=hide hx;have Dv:=hide (show ∀ k∈vI (wV a1 a2 a3 a4 a5 n1 c1 908 c2 n3 c3 n4 c4 n5 c5),k∉F/\k≠d from fun k hk=>⟨fun hm=>by have:=hfr k hm; have:=HIL.out k hk; omega,HDI.out k hk⟩);have HXI:=hide (show ∀ b off,a2=some ⟨b,off,Option.none⟩->b∉F from fun b off e=>(Dv.out b (by rw [e]; exact aaT)).1);have HK:=hide (show ∃ ws,fK W1 c (wordsOf aY 2921) kZ ws F/\ws.length=908/\∀ i,i<0->ws[i]?=dA[i]? from⟨_,hk0,by rw [List.length_map,hm.len],fun i hi=>absurd hi (by omega)⟩);clear hW hf hfc hfr hb hc1 him hx hk0 hm HNW;go_wp2_with fail
 go_loopw [2,3,32] (fun _ _ i wr=>∃ j:Nat,j<=908/\i=.int .i64 j/\Hid (ah W1 wr F)/\Hid (∃ ws,fK wr c (wordsOf aY 2921) kZ ws F/\ws.length=908/\∀ i,i<j->ws[i]?=dA[i]?)) (fun _ _ i _=>908 - (intOf i).toNat)
 case atStart=>exact⟨0,Nat.zero_le _,rfl,hide (ah.refl W1 F),HK⟩
 case round =>
  clear HK;obtain⟨j,hj,rfl,HC,HK⟩:=hrel;have hb:=HB.out.aj HC.out HD.out;have z0:=hb.cell' (i:=0) rfl;have hl:=hb.lt;have HB1:=hide hb;obtain⟨ws,hk,hwl,hws⟩:=HK.out;have CU:=hide hws;by_cases hlt:j<908
  . obtain⟨y,hy⟩:∃ y,dA[j]?=some y:=⟨dA[j]'(by rw [yt]; exact hlt),by simp⟩
    obtain⟨bb,off,hA,hcl,hbl⟩:=HX.out j (.int .i32 y) (by simp [bG,hy]);have hcl':=HC.out.cell hcl (HXI.out bb off hA);have hpk:=Dn hk j y (by omega);have HY:=hide hy;have HWL:=hide hwl;subst hA;clear hb hk hwl hws hy hcl;go_wp2_with fail
    go_at_call 26;refine hpk.mono ?_;rintro e w2 ⟨rfl,hc2,hk2⟩;have HC2:=hide hc2;have jY:=hide hk2;clear hc2 hk2 hpk;go_wp2;go_roundw
    case rel=>exact⟨j+1,by omega,by go_num,hide (HC.out.trans HC2.out (fun k hk=>.inl hk)),hide ⟨_,jY.out,by rw [List.length_set]; exact HWL.out,fun i hi=>by
     by_cases e:i=j
     . subst e
       rw [List.getElem?_set_self (by have:=HWL.out; omega)];exact HY.out.symm
     . rw [List.getElem?_set_ne (by omega)]
       exact CU.out i (by omega)⟩⟩
    case measure=>simp [intOf]; omega
  . have hjl:j=908:=by omega
    subst hjl
    obtain rfl:ws=dA:=List.ext_getElem? fun i=>by
     by_cases hi:i<908
     . exact CU.out i hi
     . rw [List.getElem?_eq_none (by omega),List.getElem?_eq_none (by rw [yt]; omega)]
    have hbg:=Ba hk;clear hb hk hwl hws CU hlt hj;go_wp2_with fail
    go_at_call 27;refine hbg.mono ?_;rintro e w2 ⟨rfl,hc2,F2,hs2,hk2⟩;have hmr:=IU w2;rw [JO] at hmr;have HC2:=hide (show ah W1 w2 F from HC.out.trans hc2 (fun k hk=>.inl hk));have HB2:=hide (HB1.out.aj hc2 HD.out);have jY:=hide hk2;have HS2:=hide (show Sub F2 F W1 from fun k hk=>(hs2 k hk).imp_right (fun h=>Nat.le_trans HC.out.size h));have HD2:=hide (jP hs2 HD.out hl);clear hc2 hs2 hk2 hbg z0 hl HB1 HC HK;go_wp2_with fail
    go_at_call 72;refine hmr.mono ?_;rintro e w3 ⟨rfl,hc3⟩;have hb3:=HB2.out.aj hc3 (by simp);have hl:=hb3.lt;have f6:=hb3.frozen 6;have z6:=hb3.cell' (i:=6) rfl;have f7:=hb3.frozen 7;have z7:=hb3.cell' (i:=7) rfl;have f8:=hb3.frozen 8;have z8:=hb3.cell' (i:=8) rfl;have f9:=hb3.frozen 9;have z9:=hb3.cell' (i:=9) rfl;have f10:=hb3.frozen 10;have z10:=hb3.cell' (i:=10) rfl;have f11:=hb3.frozen 11;have z11:=hb3.cell' (i:=11) rfl;have f12:=hb3.frozen 12;have z12:=hb3.cell' (i:=12) rfl;have f13:=hb3.frozen 13;have z13:=hb3.cell' (i:=13) rfl;have jC:=hide (show ah W1 w3 F from HC2.out.trans hc3 (by simp));have Gp:=hide (show FC w3 c st0 kZ F2 from⟨FY,by rw [JQ]; exact jY.out.bJ hc3,adJ⟩);have HB3:=hide (show aC _ d 89 _ from((((((((hb3.aK 6 (.int .i32 1073741824)).aK 7 (.int .i32 0)).aK 8 (.int .i32 0)).aK 9 (.int .i32 0)).aK 10 (.int .i64 0)).aK 11 (.int .i64 0)).aK 12 (.int .i64 0)).aK 13 (.bool false)));have KI:=hide (show ah _ _ [d] from(((((((((ah.refl w3 [d]).setCell ⟨d,6,none⟩ (.int .i32 1073741824) (.inl (List.mem_singleton.2 rfl))).setCell ⟨d,7,none⟩ (.int .i32 0) (.inl (List.mem_singleton.2 rfl))).setCell ⟨d,8,none⟩ (.int .i32 0) (.inl (List.mem_singleton.2 rfl))).setCell ⟨d,9,none⟩ (.int .i32 0) (.inl (List.mem_singleton.2 rfl))).setCell ⟨d,10,none⟩ (.int .i64 0) (.inl (List.mem_singleton.2 rfl))).setCell ⟨d,11,none⟩ (.int .i64 0) (.inl (List.mem_singleton.2 rfl))).setCell ⟨d,12,none⟩ (.int .i64 0) (.inl (List.mem_singleton.2 rfl))).setCell ⟨d,13,none⟩ (.bool false) (.inl (List.mem_singleton.2 rfl))));clear hb3 hc3 hmr HC2 jY HB2;go_wp2;refine bodyPost_end (results_none rfl _ _ _) rfl ?_;have hc0:vJ 0=0:=by unfold vJ; simp
    have hcw:ah w _ [d]:=(bZ.out.trans jC.out (fun k hk=>.inr (HFR.out k hk))).trans KI.out (fun k hk=>.inl hk);have hcx:ah W1 _ (d::F):=(jC.out.more (D':=d::F) (fun k hk=>.inl (List.mem_cons_of_mem _ hk))).trans KI.out (fun k hk=>.inl (by simp at hk; simp [hk]));refine⟨rfl,hcw,c,F2,⟨⟨a1,a2,a3,a4,a5,n1,c1,908,c2,n3,c3,n4,c4,n5,c5,by unfold adM st0 q1; rw [CQ.1,CQ.2,hc0]; exact HB3.out,qY RH.out hcx (fun k hk=>by have:=Dv.out k hk; simp [this.1,this.2]),rfl⟩,Gp.out.aj KI.out (fun k hk hm=>HD2.out (by simp at hm; exact hm▸hk)) (fun k hk=>by simp at hk; exact hk▸HDQ.out),(fun h=>by cases h),IG,fun k hk=>⟨jP HS2.out (Dv.out k hk).1 (JR RH.out k hk),(Dv.out k hk).2⟩,HD2.out,HDQ.out,by omega⟩,fun k hk=>?_⟩;rcases HS2.out k hk with h | h
    . exact HFR.out k h
    . exact Nat.le_trans bZ.out.size h
theorem Yh {w:World} {d c:Nat} {x:Xi.St} {s:CS} {ran:Bool} {n:Nat} {F I:List Nat} (hg:oh w) (h:fH w d c x s ran n F I) :
 Calls Tryz.prog 19 #[.pointer (some ⟨d,0,none⟩)] w fun e w'=>e=.returned (.int .i64 0)/\ah w w' (d::F)/\∃ F',Sub F' F w/\fH w' d c st0 kZ false n F' I:=by
 have hv:=tC h;have HO:=hide (ag_ hg h);clear h hg;go_enter Tryz.func19,Tryz.ntmps19
 go_wp2_with fail
 go_at_call 41;refine hv.mono ?_;rintro e w1 ⟨rfl,rfl⟩;go_wp2_with fail
 go_at_call 40;refine HO.out.mono ?_;rintro e w2 ⟨rfl,hr⟩;have HR:=hide hr;clear hr;go_wp2;go_ret;exact⟨rfl,HR.out⟩
theorem O8(w:World)(hg:oh w):Calls Tryz.prog 16 #[] w fun e w'=>∃ d c F I,e=.returned (.pointer (some ⟨d,0,none⟩))/\ah w w' []/\fH w' d c st0 kZ false 0 F I/\∀ k∈d::(F++I),w.heap.size<=k:=by
 have hi:=acM w hg;have HG:=hide hg;clear hg;go_enter Tryz.func16,Tryz.ntmps16
 go_wp2_with fail
 go_at_call 22;refine hi.mono ?_;rintro e w1 ⟨v,rfl,hc1,him,hfr⟩;obtain⟨v1,v2,v3,v4,v5,rfl,g1,g2,g3,g4,g5⟩:=id him;obtain⟨a1,c1,rfl,_⟩:=id g1;obtain⟨a2,c2,rfl,_⟩:=id g2;obtain⟨a3,c3,rfl,_⟩:=id g3;obtain⟨a4,c4,rfl,_⟩:=id g4;obtain⟨a5,c5,rfl,_⟩:=id g5;generalize (jH ((wordsOf aY 2921).map fun w:Nat=>(w:Int))).length=n1 at *;generalize (bG dA).length=n2 at *;generalize (bools kR).length=n3 at *;generalize (ints [0,1,2,3,4,5,6,7,8,9,10,11,12,13,14,15,16,17,18,19]).length=n4 at *;generalize (ints dZ).length=n5 at *;have hb:=aC.new w1 89 [.pointer none,.slice a1 n1 c1,.slice a2 n2 c2,.slice a3 n3 c3,.slice a4 n4 c4,.slice a5 n5 c5,.int .i32 0,.int .i32 0,.int .i32 0,.int .i32 0,.int .i64 0,.int .i64 0,.int .i64 0,.bool false,.int .i64 0];have hcA:=(ah.refl w1 []).alloc (.cells #[.pointer none,.slice a1 n1 c1,.slice a2 n2 c2,.slice a3 n3 c3,.slice a4 n4 c4,.slice a5 n5 c5,.int .i32 0,.int .i32 0,.int .i32 0,.int .i32 0,.int .i64 0,.int .i64 0,.int .i64 0,.bool false,.int .i64 0] 89);have hgA:=HG.out.aj (hc1.trans hcA (by simp)) (by simp);have hlt:=JR him;have hq:11<=w1.heap.size:=by have:=hc1.size; have:=HG.out.size; omega
 have HO:=hide (akp hgA hb (him.keep hcA) (fun k hk e=>by have:=hlt k hk; omega) hq);have HC:=hide (hc1.trans hcA (D:=[]) (by simp))
 have HFR:=hide (show ∀ k∈vI (wV a1 a2 a3 a4 a5 n1 c1 n2 c2 n3 c3 n4 c4 n5 c5),w.heap.size<=k from fun k hk=>by
  obtain⟨u,hu,hub⟩:=List.mem_filterMap.1 hk;obtain⟨B,m,q,rfl,rfl⟩:=ag9 hub;have:=hfr _ _ _ _ _ rfl _ hu B m q rfl
  simpa using this)
 have HZ:=hide (size_alloc w1 (.cells #[.pointer none,.slice a1 n1 c1,.slice a2 n2 c2,.slice a3 n3 c3,.slice a4 n4 c4,.slice a5 n5 c5,.int .i32 0,.int .i32 0,.int .i32 0,.int .i32 0,.int .i64 0,.int .i64 0,.int .i64 0,.bool false,.int .i64 0] 89));have HS:=hide hc1.size;clear hi hc1 him hfr g1 g2 g3 g4 g5 hb hcA hgA hlt hq;go_wp2_with fail
 go_at_call 40;refine HO.out.mono ?_;rintro e w2 ⟨rfl,hc2,c,F,hd,hF⟩;have HC2:=hide (HC.out.trans hc2 (D:=[]) (fun k hk=>.inr (by simp at hk; have:=HS.out; omega)));have HD:=hide hd
 have HF:=hide (show ∀ k∈w1.heap.size::(F++vI (wV a1 a2 a3 a4 a5 n1 c1 n2 c2 n3 c3 n4 c4 n5 c5)),w.heap.size<=k from fun k hk=>by
  simp only [List.mem_cons,List.mem_append] at hk;rcases hk with rfl | hk | hk
  . exact HS.out
  . have:=hF k hk
    have:=HZ.out;have:=HS.out;omega
  . exact HFR.out k hk)
 clear hc2 hd hF HO;go_wp2;go_ret;exact⟨_,c,F,_,rfl,HC2.out,HD.out,HF.out⟩
end

section
open Go Go.RowKit Go.Deep Go.Maps Ab Xi
attribute [local go_sem] Oper.semAt_some
theorem IV(w:World):Calls Tryz.prog 42 #[.int .i64 20] w fun e w'=>e=.returned (.func (.func 73) #[] #[.pointer (some ⟨w.heap.size,0,none⟩)])/\ah w w' []/\aC w' w.heap.size 3 [.int .i64 20]:=by
 have hb:=aC.new w 3 [.int .i64 20];go_enter Tryz.func42,Tryz.ntmps42
 go_wp2;go_ret;exact⟨rfl,(ah.refl w []).alloc _,hb⟩
theorem O9{w:World}{p n m:Nat}{A:Option Addr}(hp:aC w p 3 [.int .i64 20])(hn:n<=maxLen):Calls Tryz.prog 73 #[.slice A n m,.pointer (some ⟨p,0,none⟩)] w fun e w'=>e=.returned (.int .i64 (if n=20 then 0 else jf n))/\w=w':=by
 have z0:=hp.cell' (i:=0) rfl;unfold maxLen at hn;by_cases h1:n<20
 . rw [if_neg (by omega),show jf n=4 from if_pos h1]
   have k0:decide ((n:Int)<20)=true:=by simp; omega
   go_enter Tryz.func73,Tryz.ntmps73
   go_wp2;go_ret;exact⟨rfl,rfl⟩
 . have k0:decide ((n:Int)<20)=false:=by simp; omega
   by_cases h2:n=20
   . subst h2
     rw [if_pos rfl];go_enter Tryz.func73,Tryz.ntmps73
     go_wp2;go_ret;exact⟨rfl,rfl⟩
   . have k1:decide ((n:Int)>20)=true:=by simp; omega
     rw [if_neg h2,show jf n=5 from if_neg h1];go_enter Tryz.func73,Tryz.ntmps73
     go_wp2;go_ret;exact⟨rfl,rfl⟩
theorem Sm {w:World} {d c:Nat} {x:Xi.St} {s:CS} {ran:Bool} {n:Nat} {F I:List Nat} (h:fH w d c x s ran n F I) {A:Option Addr} {k m:Nat} (hk:k≠20) (hl:k<=maxLen) :
 Calls Tryz.prog 18 #[.pointer (some ⟨d,0,none⟩),.slice A k m] w fun e w'=>e=.returned (.tuple #[.slice none 0 0,.int .i64 (jf k)])/\ah w w' []:=by
 have hv:=tC h;have hn:(jf k != 0)=true:=by unfold jf; split<;>rfl
 have hlk:=IV w;obtain⟨E,hE⟩:∃ E,jf k=E:=⟨_,rfl⟩
 rw [hE] at hn ⊢;have HE:=hide hE;clear h hE;have HL:=hide hl;clear hl;go_enter Tryz.func18,Tryz.ntmps18
 go_wp2_with fail
 go_at_call 41;refine hv.mono ?_;rintro e w1 ⟨rfl,rfl⟩;go_wp2_with fail
 go_at_call 42;refine hlk.mono ?_;rintro e w1 ⟨rfl,hc,hb⟩;have hlc:=O9 (A:=A) (m:=m) hb HL.out;rw [if_neg hk,HE.out] at hlc;have HC:=hide hc;have HK:=hide hlc;clear hc hlc hb hlk hv;go_wp2_with fail
 refine HK.out.mono ?_;rintro e w2 ⟨rfl,rfl⟩;go_wp2;go_ret2;exact⟨rfl,HC.out⟩
def vP (d cc cb:Nat) (B:Option Addr) (a1 a2 a3 a4 a5:Option Addr) (n1 c1 n2 c2 n3 c3 n4 c4 n5 c5:Nat) (γ:Gh):Nat->Value
 | 0=>.pointer (some ⟨d,0,none⟩)
 | 1=>.pointer (some ⟨d,0,none⟩)
 | 2=>.pointer (some ⟨d,0,none⟩)
 | 3=>.pointer (some ⟨cc,0,none⟩)
 | 4=>.pointer (some ⟨d,0,none⟩)
 | 5=>.pointer (some ⟨d,0,none⟩)
 | 6=>.pointer (some ⟨d,1,none⟩)
 | 7=>.agg #[.slice a1 n1 c1,.slice a2 n2 c2,.slice a3 n3 c3,.slice a4 n4 c4,.slice a5 n5 c5]
 | 8=>.slice B 20 cb
 | 9=>γ 9
 | 10=>γ 10
 | 11=>γ 11
 | 12=>γ 11
 | _=>undef
theorem asU(d cc cb:Nat)(B:Option Addr)(a1 a2 a3 a4 a5:Option Addr)(n1 c1 n2 c2 n3 c3 n4 c4 n5 c5:Nat)(γ:Gh)(v:Value):∀ j,j∉([9]:List Nat)->vP d cc cb B a1 a2 a3 a4 a5 n1 c1 n2 c2 n3 c3 n4 c4 n5 c5 (upd γ 9 v) j=vP d cc cb B a1 a2 a3 a4 a5 n1 c1 n2 c2 n3 c3 n4 c4 n5 c5 γ j:=fun j hj=>by
 match j,hj with
 | 0,_=>rfl
 | 1,_=>rfl
 | 2,_=>rfl
 | 3,_=>rfl
 | 4,_=>rfl
 | 5,_=>rfl
 | 6,_=>rfl
 | 7,_=>rfl
 | 8,_=>rfl
 | 9,hj=>exact absurd (by decide) hj
 | 10,_=>rfl
 | 11,_=>rfl
 | 12,_=>rfl
 | _+13,_=>rfl
theorem aol(d cc cb:Nat)(B:Option Addr)(a1 a2 a3 a4 a5:Option Addr)(n1 c1 n2 c2 n3 c3 n4 c4 n5 c5:Nat)(γ:Gh)(v:Value):∀ j,j∉([10]:List Nat)->vP d cc cb B a1 a2 a3 a4 a5 n1 c1 n2 c2 n3 c3 n4 c4 n5 c5 (upd γ 10 v) j=vP d cc cb B a1 a2 a3 a4 a5 n1 c1 n2 c2 n3 c3 n4 c4 n5 c5 γ j:=fun j hj=>by
 match j,hj with
 | 0,_=>rfl
 | 1,_=>rfl
 | 2,_=>rfl
 | 3,_=>rfl
 | 4,_=>rfl
 | 5,_=>rfl
 | 6,_=>rfl
 | 7,_=>rfl
 | 8,_=>rfl
 | 9,_=>rfl
 | 10,hj=>exact absurd (by decide) hj
 | 11,_=>rfl
 | 12,_=>rfl
 | _+13,_=>rfl
theorem aom(d cc cb:Nat)(B:Option Addr)(a1 a2 a3 a4 a5:Option Addr)(n1 c1 n2 c2 n3 c3 n4 c4 n5 c5:Nat)(γ:Gh)(v:Value):∀ j,j∉([11,12]:List Nat)->vP d cc cb B a1 a2 a3 a4 a5 n1 c1 n2 c2 n3 c3 n4 c4 n5 c5 (upd γ 11 v) j=vP d cc cb B a1 a2 a3 a4 a5 n1 c1 n2 c2 n3 c3 n4 c4 n5 c5 γ j:=fun j hj=>by
 match j,hj with
 | 0,_=>rfl
 | 1,_=>rfl
 | 2,_=>rfl
 | 3,_=>rfl
 | 4,_=>rfl
 | 5,_=>rfl
 | 6,_=>rfl
 | 7,_=>rfl
 | 8,_=>rfl
 | 9,_=>rfl
 | 10,_=>rfl
 | 11,hj=>exact absurd (by decide) hj
 | 12,hj=>exact absurd (by decide) hj
 | _+13,_=>rfl
theorem asV(v:Nat->Value)(t0 t1 t2 t3 t4 t5 t6 t7 t8 t9 t10 t11 t12 t13 t14 t15 t16 t17 t18 t19 t20 t21 t22 t23 t24 t25 t26 t27 t28 t29 t30 t31 t32 t33 t34 t35 t36 t37 t38 t39 t40 t41 t42 t43 t44 t45 t46 t47 t48 t49 t50 t51 t52 t53 t54 t55 t56 t57 t58 t59 t60 t61 t62 t63 t64 t65 t66 t67:Value):oK v (some 19::some 20::some 21::some 22::some 23::some 24::some 25::some 26::some 27::some 28::some 29::some 30::some 7::[]) 0 (t0::t1::t2::t3::t4::t5::t6::t7::t8::t9::t10::t11::t12::t13::t14::t15::t16::t17::t18::t19::t20::t21::t22::t23::t24::t25::t26::t27::t28::t29::t30::t31::t32::t33::t34::t35::t36::t37::t38::t39::t40::t41::t42::t43::t44::t45::t46::t47::t48::t49::t50::t51::t52::t53::t54::t55::t56::t57::t58::t59::t60::t61::t62::t63::t64::t65::t66::t67::[])=(t0::t1::t2::t3::t4::t5::t6::v 12::t8::t9::t10::t11::t12::t13::t14::t15::t16::t17::t18::v 0::v 1::v 2::v 3::v 4::v 5::v 6::v 7::v 8::v 9::v 10::v 11::t31::t32::t33::t34::t35::t36::t37::t38::t39::t40::t41::t42::t43::t44::t45::t46::t47::t48::t49::t50::t51::t52::t53::t54::t55::t56::t57::t58::t59::t60::t61::t62::t63::t64::t65::t66::t67::[]):=by kernel_rfl
def tH (wr:World) (cc:Nat) (x:Xi.St) (b F:List Nat) (γ:Gh) (w':World):Nat->Prop
 | 0=>ah wr w' []
 | 1=>ah wr w' []/\Sl w' (γ 9) (bG (b.map fun n:Nat=>(n:Int)))/\∀ A n c,γ 9=.slice (some A) n c->wr.heap.size<=A.block
 | 2=>∃ F' s',ah wr w' F/\Sub F' F wr/\FC w' cc (x.next b) s' F'/\FZ s'/\Sl w' (γ 10) (bG (((x.next b).frame (jT b)).map fun n:Nat=>(n:Int)))
 | _=>∃ F' s',ah wr w' F/\Sub F' F wr/\FC w' cc (x.next b) s' F'/\FZ s'/\Sl w' (γ 11) (bU ((x.next b).frame (jT b)))/\∀ A n c,γ 11=.slice (some A) n c->A.block∉F'/\wr.heap.size<=A.block
theorem tH.aj {wr w':World} {cc:Nat} {x:Xi.St} {b F:List Nat} {γ:Gh}:∀ {m:Nat},tH wr cc x b F γ w' m->ah wr w' F
 | 0,h=>h.more (by simp)
 | 1,h=>h.1.more (by simp)
 | 2,⟨_,_,h,_⟩=>h
 | _+3,⟨_,_,h,_⟩=>h
def yO (d cc:Nat) (co κ:Int) (γ:Gh):Nat->Value
 | 0=>.pointer (some ⟨d,0,none⟩)
 | 1=>.pointer (some ⟨d,0,none⟩)
 | 2=>.pointer (some ⟨d,0,none⟩)
 | 3=>.pointer (some ⟨d,0,none⟩)
 | 4=>.pointer (some ⟨d,14,none⟩)
 | 5=>.int .i64 co
 | 6=>.pointer (some ⟨d,0,none⟩)
 | 7=>.pointer (some ⟨d,0,none⟩)
 | 8=>.pointer (some ⟨d,0,none⟩)
 | 9=>.pointer (some ⟨cc,0,none⟩)
 | 10=>.int .i64 κ
 | 11=>.int .i64 (co+κ)
 | 12=>.pointer (some ⟨d,0,none⟩)
 | 13=>.pointer (some ⟨d,13,none⟩)
 | 14=>undef
 | 15=>.pointer (some ⟨d,0,none⟩)
 | 16=>.pointer (some ⟨d,14,none⟩)
 | 17=>undef
 | _=>undef
theorem asW(v:Nat->Value)(t0 t1 t2 t3 t4 t5 t6 t7 t8 t9 t10 t11 t12 t13 t14 t15 t16 t17 t18 t19 t20 t21 t22 t23 t24 t25 t26 t27 t28 t29 t30 t31 t32 t33 t34 t35 t36 t37 t38 t39 t40 t41 t42 t43 t44 t45 t46 t47 t48 t49 t50 t51 t52 t53 t54 t55 t56 t57 t58 t59 t60 t61 t62 t63 t64 t65 t66 t67:Value):oK v (some 31::some 32::some 33::some 34::some 35::some 36::some 37::some 38::some 39::some 40::some 41::some 42::some 43::some 44::none::some 45::some 46::none::[]) 0 (t0::t1::t2::t3::t4::t5::t6::t7::t8::t9::t10::t11::t12::t13::t14::t15::t16::t17::t18::t19::t20::t21::t22::t23::t24::t25::t26::t27::t28::t29::t30::t31::t32::t33::t34::t35::t36::t37::t38::t39::t40::t41::t42::t43::t44::t45::t46::t47::t48::t49::t50::t51::t52::t53::t54::t55::t56::t57::t58::t59::t60::t61::t62::t63::t64::t65::t66::t67::[])=(t0::t1::t2::t3::t4::t5::t6::t7::t8::t9::t10::t11::t12::t13::t14::t15::t16::t17::t18::t19::t20::t21::t22::t23::t24::t25::t26::t27::t28::t29::t30::v 0::v 1::v 2::v 3::v 4::v 5::v 6::v 7::v 8::v 9::v 10::v 11::v 12::v 13::v 15::v 16::t47::t48::t49::t50::t51::t52::t53::t54::t55::t56::t57::t58::t59::t60::t61::t62::t63::t64::t65::t66::t67::[]):=by kernel_rfl
def su (wr:World) (d cc:Nat) (a1 a2 a3 a4 a5:Option Addr) (n1 c1 n2 c2 n3 c3 n4 c4 n5 c5:Nat) (x:Xi.St) (ran:Bool) (co κ:Int) (b14 b17:Bool) (w':World):Prop :=
 ah wr w' [d]/\aC w' d 89 [.pointer (some ⟨cc,0,none⟩),.slice a1 n1 c1,.slice a2 n2 c2,.slice a3 n3 c3,.slice a4 n4 c4,.slice a5 n5 c5,.int .i32 x.q.a.v,.int .i32 x.q.b.v,.int .i32 x.q.c.v,.int .i32 x.q.d.v,.int .i64 x.s,.int .i64 x.f,.int .i64 x.g,.bool (b14||ran),.int .i64 (bif b17 then co+κ else co)]
theorem KJ{w0:World}{d cc:Nat}{x:Xi.St}{s:CS}{ran:Bool}{n:Nat}{F I:List Nat}(hg:oh w0)(h:fH w0 d cc x s ran n F I)(hn:n<100){B:Option Addr}{cb:Nat}{b:List Nat}(hl:b.length=20)(hb:∀ y∈b,y<256)(hin:Sl w0 (.slice B 20 cb) (bU b)) :
 Calls Tryz.prog 18 #[.pointer (some ⟨d,0,none⟩),.slice B 20 cb] w0 fun e w'=>∃ u F' s',e=.returned (.tuple #[u,.int .i64 0])/\ah w0 w' (d::F)/\Sub F' F w0/\fH w' d cc (x.next b) s' true (n+1) F' I/\Sl w' u (bU ((x.next b).frame (jT b)))/\∀ A n c,u=.slice (some A) n c->w0.heap.size<=A.block:=by
 have fG:=hide (show Tryz.prog.follows .mixedOrders=true by kernel_rfl);have hv:=tC h;have hlk:=IV w0;obtain⟨a1,a2,a3,a4,a5,n1,c1,n2,c2,n3,c3,n4,c4,n5,c5,h1,h2,h3⟩:=h.ex;have HB0:=hide h1;have adN:=hide h2;have HI:=hide h3;have axz:=hide h.core;have HXR:=hide h.right;have HD:=hide h.out;have Dv:=hide h.sep;have Rz:=hide h.high;have qM:=hide h.lt;have HG0:=hide hg;have RJ:=hide hl;have HBB:=hide hb;have axA:=hide hin;have HNN:=hide hn;clear h1 h2 h3 h hg hl hb hin hn;go_enter Tryz.func18,Tryz.ntmps18
 go_wp2_with fail
 go_at_call 41;refine hv.mono ?_;rintro e w1 ⟨rfl,rfl⟩;go_wp2_with fail
 go_at_call 42;refine hlk.mono ?_;rintro e w ⟨rfl,hc,hbk⟩;have hlc:=O9 (A:=B) (n:=20) (m:=cb) hbk (by decide);rw [if_pos rfl] at hlc;have bZ:=hide hc;have HK:=hide hlc;clear hc hlc hbk hlk hv;go_wp2_with fail
 refine HK.out.mono ?_;rintro e w2 ⟨rfl,rfl⟩;clear HK;have HB:=hide (HB0.out.aj bZ.out (by simp));have RH:=hide (adN.out.keep bZ.out);have HIF:=hide (show ∀ k∈vI (wV a1 a2 a3 a4 a5 n1 c1 n2 c2 n3 c3 n4 c4 n5 c5),k∉F from fun k hk=>(Dv.out k (HI.out▸hk)).1);have HFC:=hide (axz.out.bJ bZ.out);have HG:=hide (HG0.out.aj bZ.out (by simp));have WT:=hide (axA.out.keep bZ.out);go_wp2_with fail
 go_upto_region 6 with(fail)
 refine iC fG.out _ _ (fun γ=>vP d cc cb B a1 a2 a3 a4 a5 n1 c1 n2 c2 n3 c3 n4 c4 n5 c5 γ) (fun(γ:Gh) L w'=>tH w cc x b F γ w' (aX L [9,10,11])) (fun _=>undef) (by kernel_rfl) [] (by kernel_rfl) (fun p hp γ=>by simp at hp) (by kernel_rfl) ?step ?start ?fin ?ext
 case start=>exact(ah.refl w []).drew
 case ext =>
  intro γ L L' w' h hw;have e:aX L [9,10,11]=aX L' [9,10,11]:=FD fun x hx=>h x (by simp at hx; rcases hx with rfl | rfl | rfl<;>decide);have hw':tH w cc x b F γ w' (aX L [9,10,11]):=hw;rw [e] at hw';exact hw'
 case step =>
  intro i o_ ho_ L av w1 γ hdn ak hW hL hpre K' Q' hK;have hW:tH w cc x b F γ w1 (aX L [9,10,11]):=hW
  match i,ho_ with
  | 0,ho =>
   injection ho with ho; subst ho;have b0:av.tmps.getD 0 undef=.pointer (some ⟨d,0,none⟩):=fM ak 0 (by kernel_rfl);clear ak;refine au ?_ (hK γ w1 (fun _ _=>rfl) (show tH w cc x b F γ _ (aX _ [9,10,11]) from by rw [fC (by decide)]; exact hW)); go_simp; rfl
  | 1,ho =>
   injection ho with ho; subst ho;have s0:=aJ ak 19 0 (by kernel_rfl) (hpre ⟨0,.data⟩ (by simp) rfl);simp only [vP] at s0;clear ak;refine au ?_ (hK γ w1 (fun _ _=>rfl) (show tH w cc x b F γ _ (aX _ [9,10,11]) from by rw [fC (by decide)]; exact hW)); go_simp; rfl
  | 2,ho =>
   injection ho with ho; subst ho;have s1:=aJ ak 20 1 (by kernel_rfl) (hpre ⟨1,.data⟩ (by simp) rfl);simp only [vP] at s1;clear ak;refine au ?_ (hK γ w1 (fun _ _=>rfl) (show tH w cc x b F γ _ (aX _ [9,10,11]) from by rw [fC (by decide)]; exact hW)); go_simp; rfl
  | 3,ho =>
   injection ho with ho; subst ho;have s2:=aJ ak 21 2 (by kernel_rfl) (hpre ⟨2,.data⟩ (by simp) rfl);simp only [vP] at s2;clear ak;have hb:=HB.out.aj hW.aj HD.out;have hbl:=hb.lt;have y0:=hb.cell' (i:=0) rfl;refine au ?_ (hK γ w1 (fun _ _=>rfl) (show tH w cc x b F γ _ (aX _ [9,10,11]) from by rw [fC (by decide)]; exact hW)); go_simp; rfl
  | 4,ho =>
   injection ho with ho; subst ho;have b0:av.tmps.getD 0 undef=.pointer (some ⟨d,0,none⟩):=fM ak 0 (by kernel_rfl);clear ak;refine au ?_ (hK γ w1 (fun _ _=>rfl) (show tH w cc x b F γ _ (aX _ [9,10,11]) from by rw [fC (by decide)]; exact hW)); go_simp; rfl
  | 5,ho =>
   injection ho with ho; subst ho;have s4:=aJ ak 23 4 (by kernel_rfl) (hpre ⟨4,.data⟩ (by simp) rfl);simp only [vP] at s4;clear ak;refine au ?_ (hK γ w1 (fun _ _=>rfl) (show tH w cc x b F γ _ (aX _ [9,10,11]) from by rw [fC (by decide)]; exact hW)); go_simp; rfl
  | 6,ho =>
   injection ho with ho; subst ho;have s5:=aJ ak 24 5 (by kernel_rfl) (hpre ⟨5,.data⟩ (by simp) rfl);simp only [vP] at s5;clear ak;refine au ?_ (hK γ w1 (fun _ _=>rfl) (show tH w cc x b F γ _ (aX _ [9,10,11]) from by rw [fC (by decide)]; exact hW)); go_simp; rfl
  | 7,ho =>
   injection ho with ho; subst ho;have s6:=aJ ak 25 6 (by kernel_rfl) (hpre ⟨6,.data⟩ (by simp) rfl);simp only [vP] at s6;clear ak;have hb:=HB.out.aj hW.aj HD.out;have hbl:=hb.lt;have y1:=hb.cell' (i:=1) rfl;have y2:=hb.cell' (i:=2) rfl;have y3:=hb.cell' (i:=3) rfl;have y4:=hb.cell' (i:=4) rfl;have y5:=hb.cell' (i:=5) rfl;refine au ?_ (hK γ w1 (fun _ _=>rfl) (show tH w cc x b F γ _ (aX _ [9,10,11]) from by rw [fC (by decide)]; exact hW)); go_simp; rfl
  | 8,ho =>
   injection ho with ho; subst ho;have b1:av.tmps.getD 1 undef=.slice B 20 cb:=fM ak 1 (by kernel_rfl);clear ak;refine au ?_ (hK γ w1 (fun _ _=>rfl) (show tH w cc x b F γ _ (aX _ [9,10,11]) from by rw [fC (by decide)]; exact hW)); go_simp; rfl
  | 9,ho =>
   injection ho with ho; subst ho;have s8:=aJ ak 27 8 (by kernel_rfl) (hpre ⟨8,.data⟩ (by simp) rfl);simp only [vP] at s8;clear ak
   have n10:L 10=false:=by
    cases h:L 10 with
    | false=>rfl
    | true=>have hx:L 9=true:=hdn 10 _ rfl h ⟨9,.data⟩ (by simp) rfl; rw [hL] at hx; cases hx
   have n11:L 11=false:=by
    cases h:L 11 with
    | false=>rfl
    | true=>have hx:L 10=true:=hdn 11 _ rfl h ⟨10,.data⟩ (by simp) rfl; rw [n10] at hx; cases hx
   have hS:ah w w1 []:=by
    have h:tH w cc x b F γ w1 (aX L [9,10,11]):=hW;rwa [show aX L [9,10,11]=0 by simp [aX,hL,n10,n11]] at h
   have hm:aX (fun e=>if e=9 then true else L e) [9,10,11]=1:=by simp [aX,n10,n11]
   refine gU (f:=35) (args:=#[.slice B 20 cb]) ?_ (W_ (WT.out.keep hS) HBB.out (by rw [RJ.out]; decide)) ?_
   . go_simp
   . rintro e w2 ⟨u,rfl,hc,hu,hn⟩
     exact⟨_,rfl,hK (upd γ 9 u) w2 (qW hdn [9] (by kernel_rfl) hL (asU d cc cb B a1 a2 a3 a4 a5 n1 c1 n2 c2 n3 c3 n4 c4 n5 c5 γ _)) (show tH w cc x b F _ _ (aX _ [9,10,11]) from by rw [hm]; exact⟨hS.trans hc (by simp),by rw [mX]; exact hu,fun A n c e=>Nat.le_trans hS.size (hn A n c (by rw [mX] at e; exact e))⟩)⟩
  | 10,ho =>
   injection ho with ho; subst ho;have s3:=aJ ak 22 3 (by kernel_rfl) (hpre ⟨3,.data⟩ (by simp) rfl);have s7:=aJ ak 26 7 (by kernel_rfl) (hpre ⟨7,.data⟩ (by simp) rfl);have l9:=hpre ⟨9,.data⟩ (by simp) rfl;have s9:=aJ ak 28 9 (by kernel_rfl) l9;simp only [vP] at s3 s7 s9;clear ak
   have n11:L 11=false:=by
    cases h:L 11 with
    | false=>rfl
    | true=>have hx:L 10=true:=hdn 11 _ rfl h ⟨10,.data⟩ (by simp) rfl; rw [hL] at hx; cases hx
   have l9:L 9=true:=hpre ⟨9,.data⟩ (by simp) rfl
   have hS:ah w w1 []/\Sl w1 (γ 9) (bG (b.map fun n:Nat=>(n:Int)))/\∀ A n c,γ 9=.slice (some A) n c->w.heap.size<=A.block:=by
    have h:tH w cc x b F γ w1 (aX L [9,10,11]):=hW;rwa [show aX L [9,10,11]=1 by simp [aX,hL,l9,n11]] at h
   have hm:aX (fun e=>if e=10 then true else L e) [9,10,11]=2:=by simp [aX,l9,n11]
   have hga:=Yd (HG.out.aj hS.1 (by simp)) (HFC.out.bJ hS.1) HXR.out (RH.out.keep hS.1) HIF.out RJ.out HBB.out hS.2.1 (fun k hk hmk=>by
    obtain⟨A9,c9,e9,_⟩:=hS.2.1;rw [e9] at hk
    match A9,hk with
    | some ⟨bk,_,none⟩,hk =>
     obtain rfl:=Option.some.inj hk;have h9:w.heap.size<=bk:=hS.2.2 _ _ _ e9;have:=HFC.out.lt _ hmk
     omega)
   refine gU (f:=34) (args:=#[.pointer (some ⟨cc,0,none⟩),.agg #[.slice a1 n1 c1,.slice a2 n2 c2,.slice a3 n3 c3,.slice a4 n4 c4,.slice a5 n5 c5],γ 9]) ?_ hga ?_
   . go_simp
   . rintro e w2 ⟨u,F',s',rfl,hc,hs,hk,hd,ho⟩
     exact ⟨_,rfl,hK (upd γ 10 u) w2 (qW hdn [10] (by kernel_rfl) hL (aol d cc cb B a1 a2 a3 a4 a5 n1 c1 n2 c2 n3 c3 n4 c4 n5 c5 γ _)) (show tH w cc x b F _ _ (aX _ [9,10,11]) from by
      rw [hm];refine⟨F',s',(hS.1.more (D':=F) (by simp)).trans hc (fun k hk=>.inl hk),fun k hk=>(hs k hk).imp_right (fun h=>Nat.le_trans hS.1.size h),hk,hd,?_⟩;rw [mX]
      exact Sl.own ho)⟩
  | 11,ho =>
   injection ho with ho; subst ho;have l10:=hpre ⟨10,.data⟩ (by simp) rfl;have s10:=aJ ak 29 10 (by kernel_rfl) l10;simp only [vP] at s10;clear ak;have l10:L 10=true:=hpre ⟨10,.data⟩ (by simp) rfl;have l9:L 9=true:=hdn 10 _ rfl l10 ⟨9,.data⟩ (by simp) rfl
   obtain ⟨F',s',h1,h2,h3,h4,h5⟩:∃ F' s',ah w w1 F/\Sub F' F w/\FC w1 cc (x.next b) s' F'/\FZ s'/\Sl w1 (γ 10) (bG (((x.next b).frame (jT b)).map fun n:Nat => (n:Int))):=by
    have h:tH w cc x b F γ w1 (aX L [9,10,11]):=hW;rwa [show aX L [9,10,11]=2 by simp [aX,hL,l9,l10]] at h
   have hm:aX (fun e=>if e=11 then true else L e) [9,10,11]=3:=by simp [aX,l9,l10]
   refine gU (f:=33) (args:=#[γ 10]) ?_ (Xa h5 (Xi.Bq (x.next b) (Xi.IC b)) (by rw [Xi.iQ]; decide)) ?_
   . go_simp
   . rintro e w2 ⟨u,rfl,hc,hu,hn⟩
     exact ⟨_,rfl,hK (upd γ 11 u) w2 (qW hdn [11,12] (by kernel_rfl) hL (aom d cc cb B a1 a2 a3 a4 a5 n1 c1 n2 c2 n3 c3 n4 c4 n5 c5 γ _)) (show tH w cc x b F _ _ (aX _ [9,10,11]) from by
      rw [hm];refine⟨F',s',h1.trans hc (by simp),h2,h3.bJ hc,h4,?_,fun A n c e=>?_⟩
      . rw [mX]
        exact hu
      . rw [mX] at e
        have h6:=hn A n c e
        exact⟨fun hm=>by have:=h3.lt _ hm; omega,Nat.le_trans h1.size h6⟩)⟩
  | 12,ho =>
   injection ho with ho; subst ho;have s11:=aJ ak 30 11 (by kernel_rfl) (hpre ⟨11,.data⟩ (by simp) rfl);simp only [vP] at s11;clear ak;refine au ?_ (hK γ w1 (fun _ _=>rfl) (show tH w cc x b F γ _ (aX _ [9,10,11]) from by rw [fC (by decide)]; exact hW)); go_simp; rfl
  | _+13,ho=>cases ho
 case fin =>
 intro γ w5 hW;obtain⟨F',s',h1,h2,h3,h4,h5,h6⟩:∃ F' s',ah w w5 F/\Sub F' F w/\FC w5 cc (x.next b) s' F'/\FZ s'/\Sl w5 (γ 11) (bU ((x.next b).frame (jT b)))/\∀ A n c,γ 11=.slice (some A) n c->A.block∉F'/\w.heap.size<=A.block:=hW;obtain⟨Au,cu,eu,_⟩:=id h5;have hfl:(bU ((x.next b).frame (jT b))).length=32:=by rw [fD,Xi.iQ]
 rw [hfl] at eu;rw [jc,gy,iM];simp only [List.map_cons,List.map_nil];rw [asV];simp only [vP];rw [eu] at h5 h6 ⊢;have hb5:=HB.out.aj h1 HD.out;have jS:=hide hb5;have jD:=hide h1;have vM:=hide h2;have Ce:=hide h3;have HDN:=hide h4;have HU5:=hide h5;have HUF:=hide h6;have hd5:d∉F':=jP h2 HD.out HB.out.lt;have HD5:=hide hd5;obtain⟨κ,hκ⟩:∃ κ,nS fA=κ:=⟨_,rfl⟩
 obtain⟨co,hco⟩:∃ co,vJ n=co:=⟨_,rfl⟩
 have HWR:=hide (show IntKind.i64.wrap (co+κ)=co+κ from by
  rw [IntKind.wrap_i64];have h1:=KC;have h2:=aok (n:=n) (by have:=HNN.out; omega);rw [hκ] at h1;rw [hco] at h2
  omega)
 have HCY:=hide (show ∀ w1,ah w5 w1 [d]->Calls Tryz.prog 36 #[.pointer (some ⟨cc,0,none⟩)] w1 fun e w'=>e=.returned (.int .i64 κ)/\w1=w' from fun w1 hc=>by
  obtain⟨mem,hk,_⟩:=h3;have:=S9 (hk.aj hc (fun k hk hm=>hd5 (by simp at hm; exact hm▸hk)) (fun k hk=>by simp at hk; exact hk▸Rz.out));rw [h4.2.2,hκ] at this
  exact this)
 rw [hco] at jS;have Hκ:=hide hκ;have Hco:=hide hco;clear h1 h2 h3 h4 h5 h6 hb5 hd5 hκ hco hfl eu;go_wp2_with fail
 go_upto_region 7 with(fail)
 refine iC fG.out _ _ (fun γ=>yO d cc co κ γ) (fun(γ:Gh) L w'=>su w5 d cc a1 a2 a3 a4 a5 n1 c1 n2 c2 n3 c3 n4 c4 n5 c5 x ran co κ (L 14) (L 17) w') (fun _=>undef) (by kernel_rfl) [] (by kernel_rfl) (fun p hp γ=>by simp at hp) (by kernel_rfl) ?step ?start ?fin ?ext
 case start=>exact⟨(ah.refl w5 [d]).drew,jS.out.aj (ah.refl w5 []).drew (by simp)⟩
 case ext =>
  intro γ L L' w' h hw;have hw':su w5 d cc a1 a2 a3 a4 a5 n1 c1 n2 c2 n3 c3 n4 c4 n5 c5 x ran co κ (L 14) (L 17) w':=hw;rw [h 14 (by decide),h 17 (by decide)] at hw';exact hw'
 case step =>
  intro i o_ ho_ L av w1 γ hdn ak hW hL hpre K' Q' hK;have hW:su w5 d cc a1 a2 a3 a4 a5 n1 c1 n2 c2 n3 c3 n4 c4 n5 c5 x ran co κ (L 14) (L 17) w1:=hW
  match i,ho_ with
  | 0,ho =>
   injection ho with ho; subst ho;have b0:av.tmps.getD 0 undef=.pointer (some ⟨d,0,none⟩):=fM ak 0 (by kernel_rfl);clear ak;refine au ?_ (hK γ w1 (fun _ _=>rfl) (show su w5 d cc a1 a2 a3 a4 a5 n1 c1 n2 c2 n3 c3 n4 c4 n5 c5 x ran co κ (if(14:Nat)=0 then true else L 14) (if(17:Nat)=0 then true else L 17) _ from by rw [if_neg (by decide),if_neg (by decide)]; exact hW)); go_simp; rfl
  | 1,ho =>
   injection ho with ho; subst ho;have b0:av.tmps.getD 0 undef=.pointer (some ⟨d,0,none⟩):=fM ak 0 (by kernel_rfl);clear ak;refine au ?_ (hK γ w1 (fun _ _=>rfl) (show su w5 d cc a1 a2 a3 a4 a5 n1 c1 n2 c2 n3 c3 n4 c4 n5 c5 x ran co κ (if(14:Nat)=1 then true else L 14) (if(17:Nat)=1 then true else L 17) _ from by rw [if_neg (by decide),if_neg (by decide)]; exact hW)); go_simp; rfl
  | 2,ho =>
   injection ho with ho; subst ho;have b0:av.tmps.getD 0 undef=.pointer (some ⟨d,0,none⟩):=fM ak 0 (by kernel_rfl);clear ak;refine au ?_ (hK γ w1 (fun _ _=>rfl) (show su w5 d cc a1 a2 a3 a4 a5 n1 c1 n2 c2 n3 c3 n4 c4 n5 c5 x ran co κ (if(14:Nat)=2 then true else L 14) (if(17:Nat)=2 then true else L 17) _ from by rw [if_neg (by decide),if_neg (by decide)]; exact hW)); go_simp; rfl
  | 3,ho =>
   injection ho with ho; subst ho;have s2:=aJ ak 33 2 (by kernel_rfl) (hpre ⟨2,.data⟩ (by simp) rfl);simp only [yO] at s2;clear ak;refine au ?_ (hK γ w1 (fun _ _=>rfl) (show su w5 d cc a1 a2 a3 a4 a5 n1 c1 n2 c2 n3 c3 n4 c4 n5 c5 x ran co κ (if(14:Nat)=3 then true else L 14) (if(17:Nat)=3 then true else L 17) _ from by rw [if_neg (by decide),if_neg (by decide)]; exact hW)); go_simp; rfl
  | 4,ho =>
   injection ho with ho; subst ho;have s3:=aJ ak 34 3 (by kernel_rfl) (hpre ⟨3,.data⟩ (by simp) rfl);simp only [yO] at s3;clear ak;refine au ?_ (hK γ w1 (fun _ _=>rfl) (show su w5 d cc a1 a2 a3 a4 a5 n1 c1 n2 c2 n3 c3 n4 c4 n5 c5 x ran co κ (if(14:Nat)=4 then true else L 14) (if(17:Nat)=4 then true else L 17) _ from by rw [if_neg (by decide),if_neg (by decide)]; exact hW)); go_simp; rfl
  | 5,ho =>
   injection ho with ho; subst ho;have s4:=aJ ak 35 4 (by kernel_rfl) (hpre ⟨4,.data⟩ (by simp) rfl);simp only [yO] at s4;clear ak
   have n17:L 17=false:=by
    cases h:L 17 with
    | false=>rfl
    | true=>have hx:L 5=true:=hdn 11 _ rfl (hdn 17 _ rfl h ⟨11,.data⟩ (by simp) rfl) ⟨5,.data⟩ (by simp) rfl; rw [hL] at hx; cases hx
   have hb:=hW.2;have hbl:=hb.lt;have y14:=hb.cell' (i:=14) rfl;rw [n17] at y14;simp only [cond_false] at y14;refine au ?_ (hK γ w1 (fun _ _=>rfl) (show su w5 d cc a1 a2 a3 a4 a5 n1 c1 n2 c2 n3 c3 n4 c4 n5 c5 x ran co κ (if(14:Nat)=5 then true else L 14) (if(17:Nat)=5 then true else L 17) _ from by rw [if_neg (by decide),if_neg (by decide)]; exact hW)); go_simp; rfl
  | 6,ho =>
   injection ho with ho; subst ho;have b0:av.tmps.getD 0 undef=.pointer (some ⟨d,0,none⟩):=fM ak 0 (by kernel_rfl);clear ak;refine au ?_ (hK γ w1 (fun _ _=>rfl) (show su w5 d cc a1 a2 a3 a4 a5 n1 c1 n2 c2 n3 c3 n4 c4 n5 c5 x ran co κ (if(14:Nat)=6 then true else L 14) (if(17:Nat)=6 then true else L 17) _ from by rw [if_neg (by decide),if_neg (by decide)]; exact hW)); go_simp; rfl
  | 7,ho =>
   injection ho with ho; subst ho;have s6:=aJ ak 37 6 (by kernel_rfl) (hpre ⟨6,.data⟩ (by simp) rfl);simp only [yO] at s6;clear ak;refine au ?_ (hK γ w1 (fun _ _=>rfl) (show su w5 d cc a1 a2 a3 a4 a5 n1 c1 n2 c2 n3 c3 n4 c4 n5 c5 x ran co κ (if(14:Nat)=7 then true else L 14) (if(17:Nat)=7 then true else L 17) _ from by rw [if_neg (by decide),if_neg (by decide)]; exact hW)); go_simp; rfl
  | 8,ho =>
   injection ho with ho; subst ho;have s7:=aJ ak 38 7 (by kernel_rfl) (hpre ⟨7,.data⟩ (by simp) rfl);simp only [yO] at s7;clear ak;refine au ?_ (hK γ w1 (fun _ _=>rfl) (show su w5 d cc a1 a2 a3 a4 a5 n1 c1 n2 c2 n3 c3 n4 c4 n5 c5 x ran co κ (if(14:Nat)=8 then true else L 14) (if(17:Nat)=8 then true else L 17) _ from by rw [if_neg (by decide),if_neg (by decide)]; exact hW)); go_simp; rfl
  | 9,ho =>
   injection ho with ho; subst ho;have s8:=aJ ak 39 8 (by kernel_rfl) (hpre ⟨8,.data⟩ (by simp) rfl);simp only [yO] at s8;clear ak;have hb:=hW.2;have hbl:=hb.lt;have y0:=hb.cell' (i:=0) rfl;refine au ?_ (hK γ w1 (fun _ _=>rfl) (show su w5 d cc a1 a2 a3 a4 a5 n1 c1 n2 c2 n3 c3 n4 c4 n5 c5 x ran co κ (if(14:Nat)=9 then true else L 14) (if(17:Nat)=9 then true else L 17) _ from by rw [if_neg (by decide),if_neg (by decide)]; exact hW)); go_simp; rfl
  | 10,ho =>
   injection ho with ho; subst ho;have s9:=aJ ak 40 9 (by kernel_rfl) (hpre ⟨9,.data⟩ (by simp) rfl);simp only [yO] at s9;clear ak;refine gU (f:=36) (args:=#[.pointer (some ⟨cc,0,none⟩)]) ?_ (HCY.out w1 hW.1) ?_
   . go_simp
   . rintro e w2 ⟨rfl,rfl⟩
     exact⟨_,rfl,hK γ _ (fun _ _=>rfl) (show su w5 d cc a1 a2 a3 a4 a5 n1 c1 n2 c2 n3 c3 n4 c4 n5 c5 x ran co κ (if(14:Nat)=10 then true else L 14) (if(17:Nat)=10 then true else L 17) _ from by rw [if_neg (by decide),if_neg (by decide)]; exact hW)⟩
  | 11,ho =>
   injection ho with ho; subst ho;have s5:=aJ ak 36 5 (by kernel_rfl) (hpre ⟨5,.data⟩ (by simp) rfl);have s10:=aJ ak 41 10 (by kernel_rfl) (hpre ⟨10,.data⟩ (by simp) rfl);simp only [yO] at s5 s10;clear ak;have hwr:=HWR.out;refine au ?_ (hK γ w1 (fun _ _=>rfl) (show su w5 d cc a1 a2 a3 a4 a5 n1 c1 n2 c2 n3 c3 n4 c4 n5 c5 x ran co κ (if(14:Nat)=11 then true else L 14) (if(17:Nat)=11 then true else L 17) _ from by rw [if_neg (by decide),if_neg (by decide)]; exact hW)); go_simp; rfl
  | 12,ho =>
   injection ho with ho; subst ho;have s0:=aJ ak 31 0 (by kernel_rfl) (hpre ⟨0,.data⟩ (by simp) rfl);simp only [yO] at s0;clear ak;refine au ?_ (hK γ w1 (fun _ _=>rfl) (show su w5 d cc a1 a2 a3 a4 a5 n1 c1 n2 c2 n3 c3 n4 c4 n5 c5 x ran co κ (if(14:Nat)=12 then true else L 14) (if(17:Nat)=12 then true else L 17) _ from by rw [if_neg (by decide),if_neg (by decide)]; exact hW)); go_simp; rfl
  | 13,ho =>
   injection ho with ho; subst ho;have s12:=aJ ak 43 12 (by kernel_rfl) (hpre ⟨12,.data⟩ (by simp) rfl);simp only [yO] at s12;clear ak;refine au ?_ (hK γ w1 (fun _ _=>rfl) (show su w5 d cc a1 a2 a3 a4 a5 n1 c1 n2 c2 n3 c3 n4 c4 n5 c5 x ran co κ (if(14:Nat)=13 then true else L 14) (if(17:Nat)=13 then true else L 17) _ from by rw [if_neg (by decide),if_neg (by decide)]; exact hW)); go_simp; rfl
  | 14,ho =>
   injection ho with ho; subst ho;have s13:=aJ ak 44 13 (by kernel_rfl) (hpre ⟨13,.data⟩ (by simp) rfl);simp only [yO] at s13;clear ak;have hb:=hW.2;have hbl:=hb.lt;have z13:=hb.cell' (i:=13) rfl;have f13:=hb.frozen 13;have hcc:=(ah.refl w1 [d]).setCell ⟨d,13,none⟩ (.bool true) (.inl (List.mem_singleton.2 rfl))
   refine uf (w':=w1.setCell ⟨d,13,none⟩ (.bool true)) ?_ (hK γ _ (fun _ _=>rfl) (show su w5 d cc a1 a2 a3 a4 a5 n1 c1 n2 c2 n3 c3 n4 c4 n5 c5 x ran co κ (if(14:Nat)=14 then true else L 14) (if(17:Nat)=14 then true else L 17) _ from by
    rw [if_pos rfl,if_neg (by decide)]
    exact⟨hW.1.trans hcc (fun k hk=>.inl hk),hb.aK 13 (.bool true)⟩))
   go_simp
  | 15,ho =>
   injection ho with ho; subst ho;have s1:=aJ ak 32 1 (by kernel_rfl) (hpre ⟨1,.data⟩ (by simp) rfl);simp only [yO] at s1;clear ak;refine au ?_ (hK γ w1 (fun _ _=>rfl) (show su w5 d cc a1 a2 a3 a4 a5 n1 c1 n2 c2 n3 c3 n4 c4 n5 c5 x ran co κ (if(14:Nat)=15 then true else L 14) (if(17:Nat)=15 then true else L 17) _ from by rw [if_neg (by decide),if_neg (by decide)]; exact hW)); go_simp; rfl
  | 16,ho =>
   injection ho with ho; subst ho;have s15:=aJ ak 45 15 (by kernel_rfl) (hpre ⟨15,.data⟩ (by simp) rfl);simp only [yO] at s15;clear ak;refine au ?_ (hK γ w1 (fun _ _=>rfl) (show su w5 d cc a1 a2 a3 a4 a5 n1 c1 n2 c2 n3 c3 n4 c4 n5 c5 x ran co κ (if(14:Nat)=16 then true else L 14) (if(17:Nat)=16 then true else L 17) _ from by rw [if_neg (by decide),if_neg (by decide)]; exact hW)); go_simp; rfl
  | 17,ho =>
   injection ho with ho; subst ho;have s16:=aJ ak 46 16 (by kernel_rfl) (hpre ⟨16,.data⟩ (by simp) rfl);have s11:=aJ ak 42 11 (by kernel_rfl) (hpre ⟨11,.data⟩ (by simp) rfl);simp only [yO] at s16 s11;clear ak;have hb:=hW.2;have hbl:=hb.lt;have z14:=hb.cell' (i:=14) rfl;have f14:=hb.frozen 14;have hcc:=(ah.refl w1 [d]).setCell ⟨d,14,none⟩ (.int .i64 (co+κ)) (.inl (List.mem_singleton.2 rfl))
   refine uf (w':=w1.setCell ⟨d,14,none⟩ (.int .i64 (co+κ))) ?_ (hK γ _ (fun _ _=>rfl) (show su w5 d cc a1 a2 a3 a4 a5 n1 c1 n2 c2 n3 c3 n4 c4 n5 c5 x ran co κ (if(14:Nat)=17 then true else L 14) (if(17:Nat)=17 then true else L 17) _ from by
    rw [if_neg (by decide),if_pos rfl]
    exact⟨hW.1.trans hcc (fun k hk=>.inl hk),hb.aK 14 (.int .i64 (co+κ))⟩))
   go_simp
  | _+18,ho=>cases ho
 case fin =>
 intro γ7 w6 hW;have hW:su w5 d cc a1 a2 a3 a4 a5 n1 c1 n2 c2 n3 c3 n4 c4 n5 c5 x ran co κ true true w6:=hW;rw [jc,gy,iM];simp only [List.map_cons,List.map_nil];rw [asW];simp only [yO];have qN:=hide hW.1;have DV:=hide (show aC w6 d 89 [.pointer (some ⟨cc,0,none⟩),.slice a1 n1 c1,.slice a2 n2 c2,.slice a3 n3 c3,.slice a4 n4 c4,.slice a5 n5 c5,.int .i32 x.q.a.v,.int .i32 x.q.b.v,.int .i32 x.q.c.v,.int .i32 x.q.d.v,.int .i64 x.s,.int .i64 x.f,.int .i64 x.g,.bool true,.int .i64 (co+κ)] from hW.2);have hdF:∀ k∈F',k∉[d]:=fun k hk hm=>HD5.out (by simp at hm; exact hm▸hk);have hGd:∀ k∈[d],11<=k:=fun k hk=>by simp at hk; exact hk▸Rz.out
 have HF6:=hide (Ce.out.aj qN.out hdF hGd)
 have hu6:Sl w6 (.slice Au 32 cu) (bU ((x.next b).frame (jT b))):=HU5.out.aj qN.out (fun A n c e hm=>by
  have:=(HUF.out A n c e).2;have:=qM.out.1;have:=bZ.out.size;simp at hm
  omega)
 have hgl:∀ w',ah w6 w' []->gZ w':=fun w' hc=>((((HG.out.aj jD.out (fun k hk=>HFC.out.high k hk)).aj qN.out hGd)).aj hc (by simp)).four;have hget:=adS (x.next b) (Xi.St.zG HXR.out b) (Xi.IC b) _ w6 hgl hu6;have HGT:=hide hget;have HU6:=hide hu6;clear hW hdF hGd hu6 hgl hget;generalize hnx:x.next b=y at *;have HNX:=hide hnx;clear hnx;unfold St.rep at HGT;go_wp2_with fail
 go_at_call 43;refine HGT.out.mono ?_;rintro e w7 ⟨rfl,hc7⟩;have hb7:=DV.out.aj hc7 (by simp);have hl7:=hb7.lt;have HB7:=hide hb7
 have HC7:=hide (show ah w0 w7 (d::F) from by
  have a1:ah w0 w []:=bZ.out;have a2:ah w0 w5 F:=(a1.more (D':=F) (by simp)).trans jD.out (fun k hk=>.inl hk);have a3:ah w0 w6 (d::F):=(a2.more (D':=d::F) (fun k hk=>.inl (List.mem_cons_of_mem _ hk))).trans qN.out (fun k hk=>.inl (by simp at hk; simp [hk]))
  exact a3.trans hc7 (by simp))
 have HF7:=hide (HF6.out.bJ hc7);have HU7:=hide (HU6.out.keep hc7);have axB:=hide (show F9 w7 (wV a1 a2 a3 a4 a5 n1 c1 n2 c2 n3 c3 n4 c4 n5 c5) from qY adN.out HC7.out (fun k hk=>by have:=Dv.out k (HI.out▸hk); simp [this.1,this.2]));obtain⟨r0,e0⟩:∃ r:Int,jT b+(bif iR y.q.a y.q.b y.q.c y.q.d then 8 else 0)=r:=⟨_,rfl⟩
 obtain⟨r8,e8⟩:∃ r:Int,(gQ y.q.a y.q.b y.q.c y.q.d).a.v / 65536=r:=⟨_,rfl⟩
 obtain⟨r9,e9⟩:∃ r:Int,(gQ y.q.a y.q.b y.q.c y.q.d).b.v / 65536=r:=⟨_,rfl⟩
 obtain⟨r10,e10⟩:∃ r:Int,(gQ y.q.a y.q.b y.q.c y.q.d).c.v / 65536=r:=⟨_,rfl⟩
 rw [e0,e8,e9,e10];have b9:=aC.new w7 58 [.int .i64 r0,.int .i64 y.s,.int .i64 y.f,.int .i64 y.g,.int .i32 y.q.a.v,.int .i32 y.q.b.v,.int .i32 y.q.c.v,.int .i32 y.q.d.v,.int .i32 r8,.int .i32 r9,.int .i32 r10];have hcR:=(ah.refl w7 []).alloc (.cells #[.int .i64 r0,.int .i64 y.s,.int .i64 y.f,.int .i64 y.g,.int .i32 y.q.a.v,.int .i32 y.q.b.v,.int .i32 y.q.c.v,.int .i32 y.q.d.v,.int .i32 r8,.int .i32 r9,.int .i32 r10] 58);have hbR:=hb7.aj hcR (by simp);have hlR:=hbR.lt;have z1:=b9.cell' (i:=1) rfl;have z2:=b9.cell' (i:=2) rfl;have z3:=b9.cell' (i:=3) rfl;have z4:=b9.cell' (i:=4) rfl;have z5:=b9.cell' (i:=5) rfl;have z6:=b9.cell' (i:=6) rfl;have z7:=b9.cell' (i:=7) rfl;have f6:=hbR.frozen 6;have q6:=hbR.cell' (i:=6) rfl;have f7:=hbR.frozen 7;have q7:=hbR.cell' (i:=7) rfl;have f8:=hbR.frozen 8;have q8:=hbR.cell' (i:=8) rfl;have f9:=hbR.frozen 9;have q9:=hbR.cell' (i:=9) rfl;have f10:=hbR.frozen 10;have q10:=hbR.cell' (i:=10) rfl;have f11:=hbR.frozen 11;have q11:=hbR.cell' (i:=11) rfl;have f12:=hbR.frozen 12;have q12:=hbR.cell' (i:=12) rfl;clear HGT hc7 hb7 hl7;go_wp2;have Gq:=(show ah _ _ [d] from((((((((ah.refl (w7.alloc (.cells #[.int .i64 r0,.int .i64 y.s,.int .i64 y.f,.int .i64 y.g,.int .i32 y.q.a.v,.int .i32 y.q.b.v,.int .i32 y.q.c.v,.int .i32 y.q.d.v,.int .i32 r8,.int .i32 r9,.int .i32 r10] 58)) [d]).setCell ⟨d,6,none⟩ (.int .i32 y.q.a.v) (.inl (List.mem_singleton.2 rfl))).setCell ⟨d,7,none⟩ (.int .i32 y.q.b.v) (.inl (List.mem_singleton.2 rfl))).setCell ⟨d,8,none⟩ (.int .i32 y.q.c.v) (.inl (List.mem_singleton.2 rfl))).setCell ⟨d,9,none⟩ (.int .i32 y.q.d.v) (.inl (List.mem_singleton.2 rfl))).setCell ⟨d,10,none⟩ (.int .i64 y.s) (.inl (List.mem_singleton.2 rfl))).setCell ⟨d,11,none⟩ (.int .i64 y.f) (.inl (List.mem_singleton.2 rfl))).setCell ⟨d,12,none⟩ (.int .i64 y.g) (.inl (List.mem_singleton.2 rfl))))
 have hbF:=(((((((hbR.aK 6 (.int .i32 y.q.a.v)).aK 7 (.int .i32 y.q.b.v)).aK 8 (.int .i32 y.q.c.v)).aK 9 (.int .i32 y.q.d.v)).aK 10 (.int .i64 y.s)).aK 11 (.int .i64 y.f)).aK 12 (.int .i64 y.g))
 have hcT:ah w7 _ [d]:=(hcR.more (D':=[d]) (by simp)).trans Gq (fun k hk=>.inl hk);have hdF:∀ k∈F',k∉[d]:=fun k hk hm=>HD5.out (by simp at hm; exact hm▸hk);have hGd:∀ k∈[d],11<=k:=fun k hk=>by simp at hk; exact hk▸Rz.out
 go_ret2;have auM:vJ (n+1)=co+κ:=by rw [ako,Hco.out,Hκ.out]
 rw [HNX.out];have hSub:Sub F' F w0:=fun k hk=>(vM.out k hk).imp_right (fun h=>Nat.le_trans bZ.out.size h);refine⟨_,F',s',rfl,HC7.out.trans hcT (fun k hk=>.inl (by simp at hk; simp [hk])),hSub,⟨⟨a1,a2,a3,a4,a5,n1,c1,n2,c2,n3,c3,n4,c4,n5,c5,by unfold adM; rw [auM]; exact hbF,qY axB.out hcT (fun k hk=>by have:=Dv.out k (HI.out▸hk); simp [this.2]),HI.out⟩,HF7.out.aj hcT hdF hGd,fun _=>HDN.out,by rw [<- HNX.out]; exact Xi.St.zG HXR.out b,fun k hk=>⟨jP hSub (Dv.out k hk).1 (qM.out.2.2 k hk),(Dv.out k hk).2⟩,HD5.out,Rz.out,by have:=HNN.out; omega⟩,?_,fun A n c e=>Nat.le_trans bZ.out.size (HUF.out A n c e).2⟩
 exact HU7.out.aj hcT (fun A n c e hm=>by
  have:=(HUF.out A n c e).2;have:=qM.out.1;have:=bZ.out.size;simp at hm
  omega)
