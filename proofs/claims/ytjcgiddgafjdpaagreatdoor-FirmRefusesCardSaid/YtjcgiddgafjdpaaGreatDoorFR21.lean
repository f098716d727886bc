/- Texts of this claim, side by side: FirmC, FirmR, FirmQ. -/
import Derived.Test.YtjcgiddgafjdpaaGreatDoorFirmI
import Derived.Test.YtjcgiddgafjdpaaGreatDoorFR12
import Derived.Test.YtjcgiddgafjdpaaGreatDoorFR13
import Derived.Test.YtjcgiddgafjdpaaGreatDoorFedFeed
import Derived.Test.YtjcgiddgafjdpaaGreatDoorFR20
import Derived.Test.YtjcgiddgafjdpaaGreatDoorRso
import Derived.Deep.AppendLies
import Derived.Test.YtjcgiddgafjdpaaGreatDoorFR16
/- The filter's core: made, and run again and again. -/
namespace Go.Proofs.YtjcgiddgafjdpaaGreatDoor
open Go Go.RowKit Go.Deep Go.Maps Go.Proofs.YtjcgiddgafjdpaaGreatDoor.Ab Go.Proofs.YtjcgiddgafjdpaaGreatDoor.Xi
set_option linter.unusedVariables false
attribute [local go_sem] Oper.semAt_some
set_option maxRecDepth 100000
def memF0:List Wd:=dataFirm.map kW
theorem memF0_v:memF0.map (·.v) = dataFirm:=by kernel_rfl
theorem constF0:(constFirm.all fun p => match memF0[p.1]? with | some x => decide (x.v = (kW ((p.2:Nat):Int)).v) | none => false) = true:=by kernel_rfl
theorem memF0_len:memF0.length = 908:=by kernel_rfl
theorem fmem0:FMem (s7 st0) memF0 where
 len:=memF0_len
 st:=fun j v hj => by
  have hj7:j < 7:=(List.getElem?_eq_some_iff.1 hj).1
  rcases (by omega:j = 0∨j = 1∨j = 2∨j = 3∨j = 4∨j = 5∨j = 6) with rfl | rfl | rfl | rfl | rfl | rfl | rfl <;> (rw [← hj]; show _ = _; kernel_rfl)
 ks:=fun p hp => by
  have h:=List.all_eq_true.1 constF0 p hp
  split at h
  · rename_i x hx
    rw [hx]
    exact congrArg some (Wd.ext_ (of_decide_eq_true h))
  · cases h
def FC (w:World) (c:Nat) (x:Xi.St) (s:CS) (F:List Nat):Prop:=∃ mem,CoreAt w c (wordsOf codeFirm 2921) s (mem.map (·.v)) F∧FMem (s7 x) mem
def DoneF (s:CS):Prop:=s.st = 1∧s.marks = marksFirm.map mkI∧s.cost = sumC marksFirm
theorem FC.chg {w w':World} {c:Nat} {x:Xi.St} {s:CS} {F D:List Nat} (h:FC w c x s F) (hc:Chg w w' D) (hD:∀ k∈F,k∉D) (hG:∀ k∈D,8≤k):FC w' c x s F:=by
 obtain ⟨mem,h1,h2⟩:=h
 exact ⟨mem,h1.chg hc hD hG,h2⟩
theorem FC.chg0 {w w':World} {c:Nat} {x:Xi.St} {s:CS} {F:List Nat} (h:FC w c x s F) (hc:Chg w w' []):FC w' c x s F:=h.chg hc (by simp) (by simp)
theorem FC.lt {w:World} {c:Nat} {x:Xi.St} {s:CS} {F:List Nat} (h:FC w c x s F):∀ k∈F,k < w.heap.size:=by
 obtain ⟨mem,h1,_⟩:=h
 exact h1.lt
abbrev FImg (w:World) (v:Value):Prop:=ImgAt w v ((wordsOf codeFirm 2921).map fun w:Nat => (w:Int)) dataFirm secFirm [0,1,2,3,4,5,6,7,8,9,10,11,12,13,14,15,16,17,18,19] outsFirm
theorem wordsF_len:(wordsOf codeFirm 2921).length = 2921:=wordsFirm
theorem blk_lt {w:World} {v:Value} {xs:List Value} (h:Sl w v xs) (hx:0 < xs.length):∀ k,Xi.blkOf v = some k→k < w.heap.size:=by
 obtain ⟨A,c,rfl,_⟩:=id h
 obtain ⟨b,off,rfl,_,hb⟩:=h.at_ (k:=0) (u:=xs[0]'hx) (by simp)
 intro k hk
 have:b = k:=Option.some.inj hk
 omega
theorem fimg_lt {w:World} {v:Value} (h:FImg w v):∀ k∈imgF v,k < w.heap.size:=by
 obtain ⟨v1,v2,v3,v4,v5,rfl,g1,g2,g3,g4,g5⟩:=h
 have q1:=blk_lt g1 (by simp only [u32s,List.length_map,wordsF_len]; omega)
 have q2:=blk_lt g2 (by rw [i32s_length,show dataFirm.length = 908 by decide +kernel]; omega)
 have q3:=blk_lt g3 (by rw [show (bools secFirm).length = secFirm.length by simp [bools],show secFirm.length = 908 by decide +kernel]; omega)
 have q4:=blk_lt g4 (by rw [ints_length]; decide)
 have q5:=blk_lt g5 (by rw [ints_length,show outsFirm.length = 32 by decide +kernel]; omega)
 intro k hk
 obtain ⟨u,hu,hub⟩:=List.mem_filterMap.1 hk
 simp only [List.mem_cons,List.not_mem_nil,or_false] at hu
 rcases hu with rfl | rfl | rfl | rfl | rfl
 · exact q1 k hub
 · exact q2 k hub
 · exact q3 k hub
 · exact q4 k hub
 · exact q5 k hub
theorem sl_blk {w:World} {v:Value} {xs:List Value} (h:Sl w v xs) (hx:0 < xs.length):∃ b,Xi.blkOf v = some b∧∀ (A:Addr) (n c:Nat),v = .slice (some A) n c→A.block = b:=by
 obtain ⟨A,c,rfl,_⟩:=id h
 obtain ⟨b,off,rfl,_,hb⟩:=h.at_ (k:=0) (u:=xs[0]'hx) (by simp)
 refine ⟨b,rfl,fun A' n' c' e => ?_⟩
 injection e with e; injection e with e
 rw [← e]
theorem fimg_chg {w w':World} {v:Value} {F:List Nat} (h:FImg w v) (hc:Chg w w' F) (hF:∀ k∈imgF v,k∉F):FImg w' v:=by
 obtain ⟨v1,v2,v3,v4,v5,rfl,g1,g2,g3,g4,g5⟩:=h
 obtain ⟨q1,r1,s1⟩:=sl_blk g1 (by simp only [u32s,List.length_map,wordsF_len]; omega)
 obtain ⟨q2,r2,s2⟩:=sl_blk g2 (by rw [i32s_length,show dataFirm.length = 908 by decide +kernel]; omega)
 obtain ⟨q3,r3,s3⟩:=sl_blk g3 (by rw [show (bools secFirm).length = secFirm.length by simp [bools],show secFirm.length = 908 by decide +kernel]; omega)
 obtain ⟨q4,r4,s4⟩:=sl_blk g4 (by rw [ints_length]; decide)
 obtain ⟨q5,r5,s5⟩:=sl_blk g5 (by rw [ints_length,show outsFirm.length = 32 by decide +kernel]; omega)
 have key:∀ u∈[v1,v2,v3,v4,v5],∀ b,Xi.blkOf u = some b→b∉F:=fun u hu b hb => hF _ (List.mem_filterMap.2 ⟨u,hu,hb⟩)
 exact ⟨v1,v2,v3,v4,v5,rfl,g1.chg hc (fun A n c e => by rw [s1 A n c e]; exact key v1 (by simp) _ r1),g2.chg hc (fun A n c e => by rw [s2 A n c e]; exact key v2 (by simp) _ r2),g3.chg hc (fun A n c e => by rw [s3 A n c e]; exact key v3 (by simp) _ r3),g4.chg hc (fun A n c e => by rw [s4 A n c e]; exact key v4 (by simp) _ r4),g5.chg hc (fun A n c e => by rw [s5 A n c e]; exact key v5 (by simp) _ r5)⟩
theorem fnew_calls {w:World} (hg:Glo w) {vc vd:Value} (hs:Sl w vc (u32s ((wordsOf codeFirm 2921).map fun n:Nat => (n:Int)))) (hd:Sl w vd (i32s dataFirm)) :
 Calls Tryz.prog 20 #[vc,vd] w fun e w' => ∃ c F,e = .returned (.tuple #[.pointer (some ⟨c,0,none⟩),.int .i64 0])∧Chg w w' []∧FC w' c st0 cs00 F∧∀ k∈F,w.heap.size≤k:=by
 obtain ⟨A,cc,rfl,_⟩:=id hs
 obtain ⟨A2,cd,rfl,_⟩:=id hd
 have e1:(u32s ((wordsOf codeFirm 2921).map fun n:Nat => (n:Int))).length = (wordsOf codeFirm 2921).length:=by simp only [u32s,List.length_map]
 rw [e1] at hs ⊢
 rw [i32s_length] at hd ⊢
 refine (inew_calls hg A A2 cc cd (wordsOf codeFirm 2921) dataFirm hs hd encFirm chkFirm (by rw [wordsF_len]; decide) (by decide)).mono ?_
 rintro e w' ⟨c,F,rfl,hc,hk,hF⟩
 exact ⟨c,F,rfl,hc,⟨memF0,by rw [memF0_v]; exact hk,fmem0⟩,hF⟩
theorem pokes20 (x0 x1 x2 x3 x4 x5 x6 x7 x8 x9 x10 x11 x12 x13 x14 x15 x16 x17 x18 x19:Int) (mem:List Wd) (hl:mem.length = 908):([kW x0,kW x1,kW x2,kW x3,kW x4,kW x5,kW x6,kW x7,kW x8,kW x9,kW x10,kW x11,kW x12,kW x13,kW x14,kW x15,kW x16,kW x17,kW x18,kW x19] ++ mem.drop 20).map (·.v) = pokesL [0,1,2,3,4,5,6,7,8,9,10,11,12,13,14,15,16,17,18,19] [(kW x0).v,(kW x1).v,(kW x2).v,(kW x3).v,(kW x4).v,(kW x5).v,(kW x6).v,(kW x7).v,(kW x8).v,(kW x9).v,(kW x10).v,(kW x11).v,(kW x12).v,(kW x13).v,(kW x14).v,(kW x15).v,(kW x16).v,(kW x17).v,(kW x18).v,(kW x19).v] (mem.map (·.v)):=by
 match mem,hl with
 | m0 :: m1 :: m2 :: m3 :: m4 :: m5 :: m6 :: m7 :: m8 :: m9 :: m10 :: m11 :: m12 :: m13 :: m14 :: m15 :: m16 :: m17 :: m18 :: m19 :: t,_ => (show _ = _; kernel_rfl)
theorem sumC_marksF:0≤sumC marksFirm∧sumC marksFirm≤100000:=by
 have h:=sumC_bound marksFirm marksCo
 rw [marksLen] at h
 omega
set_option maxHeartbeats 4000000 in
theorem fagain_calls {w:World} (hg:Glo w) {c:Nat} {x:Xi.St} {s:CS} {F:List Nat} (h:FC w c x s F) (hx:x.right) {v vin:Value} (him:FImg w v) (hfar:∀ k∈imgF v,k∉F) {l:List Nat} (hl:l.length = 20) (hb:∀ y∈l,y < 256) (hin:Sl w vin (i32s (l.map fun n:Nat => (n:Int)))) (hfin:∀ k,Xi.blkOf vin = some k→k∉F) :
 Calls Tryz.prog 22 #[.pointer (some ⟨c,0,none⟩),v,vin] w fun e w' => ∃ u F' s',e = .returned u∧Chg w w' F∧Sub F' F w∧FC w' c (x.next l) s' F'∧DoneF s'∧w'.ownsRow w.heap.size 21 1 u 32 (i32s (((x.next l).frame (flN l)).map fun n:Nat => (n:Int))):=by
 obtain ⟨mem,h1,h2⟩:=h
 match l,hl with
 | [x0,x1,x2,x3,x4,x5,x6,x7,x8,x9,x10,x11,x12,x13,x14,x15,x16,x17,x18,x19],_ =>
  obtain ⟨N,m',hN,hr,hst,hks,hv,hm'⟩:=firm_way h2 (kW (x0:Int)) (kW (x1:Int)) (kW (x2:Int)) (kW (x3:Int)) (kW (x4:Int)) (kW (x5:Int)) (kW (x6:Int)) (kW (x7:Int)) (kW (x8:Int)) (kW (x9:Int)) (kW (x10:Int)) (kW (x11:Int)) (kW (x12:Int)) (kW (x13:Int)) (kW (x14:Int)) (kW (x15:Int)) (kW (x16:Int)) (kW (x17:Int)) (kW (x18:Int)) (kW (x19:Int))
  obtain ⟨f1,f2⟩:=feed_words hx x0 x1 x2 x3 x4 x5 x6 x7 x8 x9 x10 x11 x12 x13 x14 x15 x16 x17 x18 x19 hb
  rw [f1] at hm'
  have hf:=frame_lt (x.next [x0,x1,x2,x3,x4,x5,x6,x7,x8,x9,x10,x11,x12,x13,x14,x15,x16,x17,x18,x19]) (flN_in [x0,x1,x2,x3,x4,x5,x6,x7,x8,x9,x10,x11,x12,x13,x14,x15,x16,x17,x18,x19])
  have hfl:=Xi.frame_len (x.next [x0,x1,x2,x3,x4,x5,x6,x7,x8,x9,x10,x11,x12,x13,x14,x15,x16,x17,x18,x19]) (flN [x0,x1,x2,x3,x4,x5,x6,x7,x8,x9,x10,x11,x12,x13,x14,x15,x16,x17,x18,x19])
  have hbv:∀ y∈[x0,x1,x2,x3,x4,x5,x6,x7,x8,x9,x10,x11,x12,x13,x14,x15,x16,x17,x18,x19],(kW ((y:Nat):Int)).v = (y:Int):=fun y hy => kW_nat (by have:=hb y hy; omega)
  have hp:=pokes20 (x0:Int) (x1:Int) (x2:Int) (x3:Int) (x4:Int) (x5:Int) (x6:Int) (x7:Int) (x8:Int) (x9:Int) (x10:Int) (x11:Int) (x12:Int) (x13:Int) (x14:Int) (x15:Int) (x16:Int) (x17:Int) (x18:Int) (x19:Int) mem h2.len
  rw [hbv x0 (by simp),hbv x1 (by simp),hbv x2 (by simp),hbv x3 (by simp),hbv x4 (by simp),hbv x5 (by simp),hbv x6 (by simp),hbv x7 (by simp),hbv x8 (by simp),hbv x9 (by simp),hbv x10 (by simp),hbv x11 (by simp),hbv x12 (by simp),hbv x13 (by simp),hbv x14 (by simp),hbv x15 (by simp),hbv x16 (by simp),hbv x17 (by simp),hbv x18 (by simp),hbv x19 (by simp)] at hp
  have hws:(mem.map (·.v)).length = 908:=by rw [List.length_map,h2.len]
  refine (again2_calls h1 hg him hfar hin hfin rfl (fun a ha => by rw [hws]; simp at ha; omega) (by decide) (by decide) hp hr hst (by rw [wordsF_len]; decide) (by omega) (vals:=((x.next [x0,x1,x2,x3,x4,x5,x6,x7,x8,x9,x10,x11,x12,x13,x14,x15,x16,x17,x18,x19]).frame (flN [x0,x1,x2,x3,x4,x5,x6,x7,x8,x9,x10,x11,x12,x13,x14,x15,x16,x17,x18,x19])).map fun n:Nat => (n:Int)) (by rw [List.length_map,hfl]; rfl) (fun j a y hj hy => ?_)).mono ?_
  · rw [List.getElem?_map] at hy
    cases hq:((x.next [x0,x1,x2,x3,x4,x5,x6,x7,x8,x9,x10,x11,x12,x13,x14,x15,x16,x17,x18,x19]).frame (flN [x0,x1,x2,x3,x4,x5,x6,x7,x8,x9,x10,x11,x12,x13,x14,x15,x16,x17,x18,x19]))[j]? with
    | none => rw [hq] at hy; cases hy
    | some z =>
     rw [hq] at hy
     injection hy with hy
     subst hy
     have hz:=hv j a (kW (z:Int)) hj (by rw [f2]; unfold kws; rw [List.getElem?_map,hq]; rfl)
     show (m'.mm.map (·.v))[a]? = _
     rw [List.getElem?_map,hz]
     exact congrArg some (kW_nat (by have:=hf z (List.mem_of_getElem? hq); omega))
  · rintro e w' ⟨u,F',rfl,hc,hs,hk,ho⟩
    refine ⟨u,F',csM m',rfl,hc,hs,⟨m'.mm,hk,hm'⟩,⟨?_,?_,?_⟩,ho⟩
    · show ((m'.st:Nat):Int) = 1
      rw [hst]
      rfl
    · show m'.ks.map mkI = _
      rw [hks]
    · show sumC m'.ks = _
      rw [hks]
end Go.Proofs.YtjcgiddgafjdpaaGreatDoor

/- firm.Run. -/
namespace Go.Proofs.YtjcgiddgafjdpaaGreatDoor
open Go Go.RowKit Go.Deep Go.Maps Go.Proofs.YtjcgiddgafjdpaaGreatDoor.Ab Go.Proofs.YtjcgiddgafjdpaaGreatDoor.Xi
set_option linter.unusedVariables false
attribute [local go_sem] Oper.semAt_some
theorem slN {Γ:Type} {ops:Array Oper} {t0:Array Value} {val:Γ→Nat→Value} {γ:Γ} {L:Nat→Bool} {a:Act} (htm:∀ t,t < t0.size→a.tmps.getD t undef = tmG ops t0 val γ L t) (t i:Nat) (h:(Nat.blt t t0.size && slotOf ops t == some i) = true) (hL:L i = false):a.tmps.getD t undef = t0.getD t undef:=by
 rw [Bool.and_eq_true] at h
 rw [htm t (blt_iff.1 h.1)]
 unfold tmG
 rw [show slotOf ops t = some i by simpa using h.2]
 simp only [hL,cond_false]
def Rows (w:World) (v:Value) (ls:List (List Nat)):Prop:=∃ rs:List Value,Sl w v rs∧rs.length = ls.length∧∀ (i:Nat) (r:Value) (b:List Nat),rs[i]? = some r→ls[i]? = some b→Sl w r (u8s b)
theorem Rows.open_ {w:World} {v:Value} {ls:List (List Nat)} (h:Rows w v ls):∃ A c,v = .slice A ls.length c∧∀ (j:Nat) (b:List Nat),ls[j]? = some b→∃ bb off B cb,A = some ⟨bb,off,Option.none⟩∧w.cell? ⟨bb,off + j,Option.none⟩ = some (.slice B b.length cb)∧Sl w (.slice B b.length cb) (u8s b):=by
 obtain ⟨rs,h1,h2,h3⟩:=h
 obtain ⟨A,c,rfl,hx⟩:=sl_open h1
 refine ⟨A,c,by rw [h2],fun j b hb => ?_⟩
 obtain ⟨r,hr⟩:∃ r,rs[j]? = some r:=⟨rs[j]'(by have:=(List.getElem?_eq_some_iff.1 hb).1; omega),by simp⟩
 have hs:=h3 j r b hr hb
 obtain ⟨bb,off,e1,e2⟩:=hx j r hr
 obtain ⟨B,cb,rfl,_⟩:=id hs
 rw [u8s_length] at e2 hs
 exact ⟨bb,off,B,cb,e1,e2.1,hs⟩
def stateL (x:Xi.St) (ls:List (List Nat)):Xi.St:=ls.foldl (fun x b => x.next b) x
def framesL:Xi.St→List (List Nat)→List (List Nat)
 | _,[] => []
 | x,b :: ls => (x.next b).frame (flN b) :: framesL (x.next b) ls
theorem framesL_len:∀ (x:Xi.St) (ls:List (List Nat)),(framesL x ls).length = ls.length
 | _,[] => rfl
 | x,b :: ls => by show (framesL _ ls).length + 1 = ls.length + 1; rw [framesL_len]
theorem stateL_snoc (x:Xi.St) (ls:List (List Nat)) (b:List Nat):stateL x (ls ++ [b]) = (stateL x ls).next b:=by unfold stateL; rw [List.foldl_append]; rfl
theorem framesL_snoc:∀ (x:Xi.St) (ls:List (List Nat)) (b:List Nat),framesL x (ls ++ [b]) = framesL x ls ++ [((stateL x ls).next b).frame (flN b)]
 | _,[],_ => rfl
 | x,a :: ls,b => by
  show _ :: framesL _ (ls ++ [b]) = _ :: (framesL _ ls ++ _)
  rw [framesL_snoc]
  rfl
theorem stateL_right {x:Xi.St} (h:x.right):∀ (ls:List (List Nat)),(stateL x ls).right:=fun ls => by
 induction ls generalizing x with
 | nil => exact h
 | cons b ls ih => exact ih (Xi.St.next_right h b)
structure OutR (w:World) (base:Nat) (F:List Nat) (o:Value) (fs:List (List Nat)):Prop where
 row:∃ rs:List Value,w.ownsRow base 31 1 o rs.length rs∧rs.length = fs.length∧∀ (i:Nat) (r:Value) (b:List Nat),rs[i]? = some r→fs[i]? = some b→Sl w r (u8s b)∧∀ A n c,r = .slice (some A) n c→A.block∉F∧A.block < w.heap.size∧o.ownBlock≠some A.block
 far:∀ g,o.ownBlock = some g→g∉F
theorem OutR.chg {w w':World} {base:Nat} {F F':List Nat} {o:Value} {fs:List (List Nat)} (h:OutR w base F o fs) (hc:Chg w w' F) (hs:Sub F' F w):OutR w' base F' o fs where
 row:=by
  obtain ⟨rs,h1,h2,h3⟩:=h.row
  refine ⟨rs,own_chgD h1 hc h.far,h2,fun i r b hr hb => ?_⟩
  obtain ⟨h4,h5⟩:=h3 i r b hr hb
  refine ⟨h4.chg hc (fun A n c e => (h5 A n c e).1),fun A n c e => ⟨fun hm => ?_,Nat.lt_of_lt_of_le (h5 A n c e).2.1 hc.size,(h5 A n c e).2.2⟩⟩
  rcases hs _ hm with h6 | h6
  · exact (h5 A n c e).1 h6
  · have:=(h5 A n c e).2.1
    omega
 far:=fun g hg hm => by
  obtain ⟨rs,h1,_⟩:=h.row
  rcases hs g hm with h6 | h6
  · exact h.far g hg h6
  · have:=(h1.lt g hg).2
    omega
def vFR (a1 a2 a3 a4 a5:Option Addr) (n1 c1 n2 c2 n3 c3 n4 c4 n5 c5 c:Nat) (o r:Value) (γ:Gh):Nat→Value
 | 0 => o
 | 1 => .pointer (some ⟨c,0,none⟩)
 | 2 => .agg #[.slice a1 n1 c1,.slice a2 n2 c2,.slice a3 n3 c3,.slice a4 n4 c4,.slice a5 n5 c5]
 | 3 => r
 | 4 => γ 4
 | 5 => γ 5
 | 6 => γ 6
 | 7 => γ 7
 | 8 => γ 8
 | 9 => γ 8
 | _ => undef
theorem agFR_4 (a1 a2 a3 a4 a5:Option Addr) (n1 c1 n2 c2 n3 c3 n4 c4 n5 c5 c:Nat) (o r:Value) (γ:Gh) (v:Value):∀ j,j∉([4]:List Nat)→vFR a1 a2 a3 a4 a5 n1 c1 n2 c2 n3 c3 n4 c4 n5 c5 c o r (upd γ 4 v) j = vFR a1 a2 a3 a4 a5 n1 c1 n2 c2 n3 c3 n4 c4 n5 c5 c o r γ j:=fun j hj => by
 match j,hj with
 | 0,_ => rfl
 | 1,_ => rfl
 | 2,_ => rfl
 | 3,_ => rfl
 | 4,hj => exact absurd (by decide) hj
 | 5,_ => rfl
 | 6,_ => rfl
 | 7,_ => rfl
 | 8,_ => rfl
 | 9,_ => rfl
 | _ + 10,_ => rfl
theorem agFR_5 (a1 a2 a3 a4 a5:Option Addr) (n1 c1 n2 c2 n3 c3 n4 c4 n5 c5 c:Nat) (o r:Value) (γ:Gh) (v:Value):∀ j,j∉([5]:List Nat)→vFR a1 a2 a3 a4 a5 n1 c1 n2 c2 n3 c3 n4 c4 n5 c5 c o r (upd γ 5 v) j = vFR a1 a2 a3 a4 a5 n1 c1 n2 c2 n3 c3 n4 c4 n5 c5 c o r γ j:=fun j hj => by
 match j,hj with
 | 0,_ => rfl
 | 1,_ => rfl
 | 2,_ => rfl
 | 3,_ => rfl
 | 4,_ => rfl
 | 5,hj => exact absurd (by decide) hj
 | 6,_ => rfl
 | 7,_ => rfl
 | 8,_ => rfl
 | 9,_ => rfl
 | _ + 10,_ => rfl
theorem agFR_6 (a1 a2 a3 a4 a5:Option Addr) (n1 c1 n2 c2 n3 c3 n4 c4 n5 c5 c:Nat) (o r:Value) (γ:Gh) (v:Value):∀ j,j∉([6]:List Nat)→vFR a1 a2 a3 a4 a5 n1 c1 n2 c2 n3 c3 n4 c4 n5 c5 c o r (upd γ 6 v) j = vFR a1 a2 a3 a4 a5 n1 c1 n2 c2 n3 c3 n4 c4 n5 c5 c o r γ j:=fun j hj => by
 match j,hj with
 | 0,_ => rfl
 | 1,_ => rfl
 | 2,_ => rfl
 | 3,_ => rfl
 | 4,_ => rfl
 | 5,_ => rfl
 | 6,hj => exact absurd (by decide) hj
 | 7,_ => rfl
 | 8,_ => rfl
 | 9,_ => rfl
 | _ + 10,_ => rfl
theorem agFR_7 (a1 a2 a3 a4 a5:Option Addr) (n1 c1 n2 c2 n3 c3 n4 c4 n5 c5 c:Nat) (o r:Value) (γ:Gh) (v:Value):∀ j,j∉([7]:List Nat)→vFR a1 a2 a3 a4 a5 n1 c1 n2 c2 n3 c3 n4 c4 n5 c5 c o r (upd γ 7 v) j = vFR a1 a2 a3 a4 a5 n1 c1 n2 c2 n3 c3 n4 c4 n5 c5 c o r γ j:=fun j hj => by
 match j,hj with
 | 0,_ => rfl
 | 1,_ => rfl
 | 2,_ => rfl
 | 3,_ => rfl
 | 4,_ => rfl
 | 5,_ => rfl
 | 6,_ => rfl
 | 7,hj => exact absurd (by decide) hj
 | 8,_ => rfl
 | 9,_ => rfl
 | _ + 10,_ => rfl
theorem agFR_8 (a1 a2 a3 a4 a5:Option Addr) (n1 c1 n2 c2 n3 c3 n4 c4 n5 c5 c:Nat) (o r:Value) (γ:Gh) (v:Value):∀ j,j∉([8,9]:List Nat)→vFR a1 a2 a3 a4 a5 n1 c1 n2 c2 n3 c3 n4 c4 n5 c5 c o r (upd γ 8 v) j = vFR a1 a2 a3 a4 a5 n1 c1 n2 c2 n3 c3 n4 c4 n5 c5 c o r γ j:=fun j hj => by
 match j,hj with
 | 0,_ => rfl
 | 1,_ => rfl
 | 2,_ => rfl
 | 3,_ => rfl
 | 4,_ => rfl
 | 5,_ => rfl
 | 6,_ => rfl
 | 7,_ => rfl
 | 8,hj => exact absurd (by decide) hj
 | 9,hj => exact absurd (by decide) hj
 | _ + 10,_ => rfl
theorem putsFR (v:Nat→Value) (t0 t1 t2 t3 t4 t5 t6 t7 t8 t9 t10 t11 t12 t13 t14 t15 t16 t17 t18 t19 t20 t21 t22 t23 t24 t25 t26 t27 t28 t29 t30 t31 t32 t33 t34 t35 t36 t37 t38 t39 t40 t41 t42 t43 t44 t45 t46 t47 t48 t49 t50 t51 t52 t53 t54 t55 t56 t57:Value):putsD v (some 42 :: some 43 :: some 44 :: some 45 :: some 46 :: some 47 :: some 48 :: some 49 :: some 50 :: some 10 :: []) 0 (t0 :: t1 :: t2 :: t3 :: t4 :: t5 :: t6 :: t7 :: t8 :: t9 :: t10 :: t11 :: t12 :: t13 :: t14 :: t15 :: t16 :: t17 :: t18 :: t19 :: t20 :: t21 :: t22 :: t23 :: t24 :: t25 :: t26 :: t27 :: t28 :: t29 :: t30 :: t31 :: t32 :: t33 :: t34 :: t35 :: t36 :: t37 :: t38 :: t39 :: t40 :: t41 :: t42 :: t43 :: t44 :: t45 :: t46 :: t47 :: t48 :: t49 :: t50 :: t51 :: t52 :: t53 :: t54 :: t55 :: t56 :: t57 :: []) = (t0 :: t1 :: t2 :: t3 :: t4 :: t5 :: t6 :: t7 :: t8 :: t9 :: v 9 :: t11 :: t12 :: t13 :: t14 :: t15 :: t16 :: t17 :: t18 :: t19 :: t20 :: t21 :: t22 :: t23 :: t24 :: t25 :: t26 :: t27 :: t28 :: t29 :: t30 :: t31 :: t32 :: t33 :: t34 :: t35 :: t36 :: t37 :: t38 :: t39 :: t40 :: t41 :: v 0 :: v 1 :: v 2 :: v 3 :: v 4 :: v 5 :: v 6 :: v 7 :: v 8 :: t51 :: t52 :: t53 :: t54 :: t55 :: t56 :: t57 :: []):=by kernel_rfl
theorem OutR.weak {w:World} {base base':Nat} {F:List Nat} {o:Value} {fs:List (List Nat)} (h:OutR w base F o fs) (hb:base'≤base):OutR w base' [] o fs where
 row:=by
  obtain ⟨rs,h1,h2,h3⟩:=h.row
  exact ⟨rs,own_low h1 hb,h2,fun i r b hr hb => ⟨(h3 i r b hr hb).1,fun A n c e => ⟨by simp,((h3 i r b hr hb).2 A n c e).2⟩⟩⟩
 far:=fun g _ => by simp
structure SFR (wr:World) (cc:Nat) (x:Xi.St) (l:List Nat) (F:List Nat) (base:Nat) (o:Value) (fs:List (List Nat)) (γ:Gh) (m:Nat) (w':World):Prop where
 chg:Chg wr w' (F ++ o.ownBlock.toList)
 q4:m≤4→Chg wr w' F
 q:m≤1→Chg wr w' []
 s1:m = 1→Sl w' (γ 4) (i32s (l.map fun n:Nat => (n:Int)))∧∀ A n c,γ 4 = .slice (some A) n c→wr.heap.size≤A.block
 s2:2≤m→∃ F' s',Sub F' F wr∧FC w' cc (x.next l) s' F'∧DoneF s'∧(m = 2→Sl w' (γ 5) (i32s (((x.next l).frame (flN l)).map fun n:Nat => (n:Int))))∧(3≤m→Sl w' (γ 6) (u8s ((x.next l).frame (flN l)))∧∀ A n c,γ 6 = .slice (some A) n c→A.block∉F'∧A.block < w'.heap.size∧o.ownBlock≠some A.block)∧(m≤4→OutR w' base F' o fs)∧(5≤m→OutR w' base F' (γ 8) (fs ++ [(x.next l).frame (flN l)]))
 s4:m = 4→∃ a,γ 7 = .slice (some ⟨a,0,none⟩) 1 1∧Blk w' a 31 [γ 6]
 s5:5≤m→∃ g c,γ 8 = .slice (some ⟨g,0,none⟩) (fs.length + 1) c
section
variable {wr w1 w2:World} {cc:Nat} {x:Xi.St} {l:List Nat} {F:List Nat} {base:Nat} {o:Value} {fs:List (List Nat)} {γ:Gh} {s:CS}
theorem info_sl8:(Tryz.prog.info? 31).map (fun i => (i.zero,i.size,i.bytes)) = some (some (.slice none 0 0),1,24):=by kernel_rfl
theorem OutR.keep {o:Value} {fs:List (List Nat)} (h:OutR w1 base F o fs) (hc:Chg w1 w2 []):OutR w2 base F o fs:=h.chg (hc.more (by simp)) (Sub.refl _ _)
theorem SFR.zero (hc:Chg wr wr []):SFR wr cc x l F base o fs γ 0 wr.drew where
 chg:=(Chg.refl wr _).drew
 q4:=fun _ => (Chg.refl wr F).drew
 q:=fun _ => (Chg.refl wr []).drew
 s1:=fun h => by cases h
 s2:=fun h => absurd h (by omega)
 s4:=fun h => by cases h
 s5:=fun h => absurd h (by omega)
theorem SFR.words (h:SFR wr cc x l F base o fs γ 0 w1) {u:Value} (hc:Chg w1 w2 []) (hu:Sl w2 u (i32s (l.map fun n:Nat => (n:Int)))) (hn:∀ A n c,u = .slice (some A) n c→w1.heap.size≤A.block):SFR wr cc x l F base o fs (upd γ 4 u) 1 w2 where
 chg:=h.chg.trans hc (by simp)
 q4:=fun _ => (h.q4 (by omega)).trans hc (by simp)
 q:=fun _ => (h.q (by omega)).trans hc (by simp)
 s1:=fun _ => by
  rw [upd_self]
  exact ⟨hu,fun A n c e => Nat.le_trans h.chg.size (hn A n c e)⟩
 s2:=fun h => absurd h (by omega)
 s4:=fun h => by cases h
 s5:=fun h => absurd h (by omega)
theorem SFR.again (h:SFR wr cc x l F base o fs γ 1 w1) {u:Value} {F':List Nat} {s':CS} (ho:OutR wr base F o fs) (hc:Chg w1 w2 F) (hs:Sub F' F w1) (hk:FC w2 cc (x.next l) s' F') (hd:DoneF s') (hu:Sl w2 u (i32s (((x.next l).frame (flN l)).map fun n:Nat => (n:Int)))):SFR wr cc x l F base o fs (upd γ 5 u) 2 w2 where
 chg:=h.chg.trans hc (fun k hk => .inl (List.mem_append_left _ hk))
 q4:=fun _ => (h.q4 (by omega)).trans hc (fun k hk => .inl hk)
 q:=fun h => absurd h (by omega)
 s1:=fun h => by cases h
 s2:=fun _ => ⟨F',s',fun k hk => (hs k hk).imp_right (fun e => Nat.le_trans h.chg.size e),hk,hd,fun _ => by rw [upd_self]; exact hu,fun h => absurd h (by omega),fun _ => (ho.keep (h.q (by omega))).chg hc hs,fun h => absurd h (by omega)⟩
 s4:=fun h => by cases h
 s5:=fun h => absurd h (by omega)
theorem SFR.bytes (h:SFR wr cc x l F base o fs γ 2 w1) {u:Value} (hc:Chg w1 w2 []) (hu:Sl w2 u (u8s ((x.next l).frame (flN l)))) (hn:∀ A n c,u = .slice (some A) n c→w1.heap.size≤A.block):SFR wr cc x l F base o fs (upd γ 6 u) 3 w2 where
 chg:=h.chg.trans hc (by simp)
 q4:=fun _ => (h.q4 (by omega)).trans hc (by simp)
 q:=fun h => absurd h (by omega)
 s1:=fun h => by cases h
 s2:=fun _ => by
  obtain ⟨F',s',h1,h2,h3,_,_,h6,_⟩:=h.s2 (by omega)
  refine ⟨F',s',h1,h2.chg0 hc,h3,(fun h => by cases h),fun _ => ?_,fun _ => (h6 (by omega)).keep hc,fun h => absurd h (by omega)⟩
  rw [upd_self]
  refine ⟨hu,fun A n c e => ⟨fun hm => ?_,?_,fun ho => ?_⟩⟩
  · have:=h2.lt _ hm
    have:=hn A n c e
    omega
  rotate_left
  · obtain ⟨rs,k1,_⟩:=(h6 (by omega)).row
    have:=(k1.lt _ ho).2
    have:=hn A n c e
    omega
  · subst e
    obtain ⟨b,off,e1,_,hlt⟩:=hu.at_ (k:=0) (List.getElem?_eq_getElem (by rw [u8s_length,Xi.frame_len]; decide))
    injection e1 with e1
    subst e1
    exact hlt
 s4:=fun h => by cases h
 s5:=fun h => absurd h (by omega)
theorem SFR.lit (h:SFR wr cc x l F base o fs γ 3 w1) {A:Option Addr} {m cap:Nat} (hu:γ 6 = .slice A m cap):SFR wr cc x l F base o fs (upd γ 7 (.slice (some ⟨w1.heap.size,0,none⟩) 1 1)) 4 (w1.alloc (.cells #[.slice A m cap] 31)) where
 chg:=h.chg.alloc _
 q4:=fun _ => (h.q4 (by omega)).alloc _
 q:=fun h => absurd h (by omega)
 s1:=fun h => by cases h
 s2:=fun _ => by
  obtain ⟨F',s',h1,h2,h3,_,h5,h6,_⟩:=h.s2 (by omega)
  have hc:Chg w1 (w1.alloc (.cells #[.slice A m cap] 31)) []:=(Chg.refl w1 []).alloc _
  refine ⟨F',s',h1,h2.chg0 hc,h3,(fun h => by cases h),fun _ => ?_,fun _ => (h6 (by omega)).keep hc,fun h => absurd h (by omega)⟩
  rw [upd_ne _ _ (by decide)]
  obtain ⟨k1,k2⟩:=h5 (by omega)
  exact ⟨k1.keep hc,fun A n c e => ⟨(k2 A n c e).1,Nat.lt_of_lt_of_le (k2 A n c e).2.1 hc.size,(k2 A n c e).2.2⟩⟩
 s4:=fun _ => ⟨w1.heap.size,upd_self _ _ _,by rw [upd_ne _ _ (by decide),hu]; exact Blk.new w1 31 [.slice A m cap]⟩
 s5:=fun h => absurd h (by omega)
theorem SFR.put (h:SFR wr cc x l F base o fs γ 4 w1) (hl:fs.length≤1000) (hb:base≤w1.heap.size) (hQb:8≤base) {P:Program} {op:Oper} {av:Act} {K:Act→World→Prop} {Q:Exit→Act→World→Prop} (hP:P = Tryz.prog)
 (hgd:op.guard = none) (hop:op.op = .call { callee:=.builtin .append,args:=#[.tmp 42,.tmp 49],argTypes:=#[22,22] }) (h0:av.tmps.getD 42 undef = o) (h7:av.tmps.getD 49 undef = γ 7)
 (hK:∀ u w2,SFR wr cc x l F base o fs (upd γ 8 u) 5 w2→K (av.put op.dst u) w2):Oper.wp P op av w1 K Q:=by
 subst hP
 obtain ⟨F',s',h1,h2,h3,_,h5,h6,_⟩:=h.s2 (by omega)
 obtain ⟨k1,k2⟩:=h5 (by omega)
 have ho:=h6 (by omega)
 obtain ⟨a,h7',hba⟩:=h.s4 rfl
 obtain ⟨rs,hown,hrl,hrs⟩:=ho.row
 obtain ⟨i0,hi0,hz0,hz1,hz2⟩:=info_parts info_sl8
 obtain ⟨A6,c6,e6,_⟩:=id k1
 have h42:av.eval (.tmp 42) = o:=h0
 have h49:av.eval (.tmp 49) = .slice (some ⟨a,0,none⟩) 1 1:=by rw [← h7']; exact h7
 refine wp_append_lies w1 (.tmp 42) (.tmp 49) 22 hop base 31 i0 (.slice none 0 0) 1 24 Tryz.underlying22 hi0 hz0 hz1 hz2 rfl (by decide) o rs.length rs h42 hown ⟨a,0,none⟩ 1 1 [γ 6] h49 rfl (fun j u hj => ?_) (fun u hu => ?_) (by decide) (by unfold maxLen; omega) (by omega) hb _ rfl ?_
 · match j,hj with
   | 0,hj => obtain rfl:γ 6 = u:=(by simpa using hj); rw [add_plain,Nat.zero_add]; exact hba.cell' (i:=0) rfl
 · simp only [List.mem_singleton] at hu
   subst hu
   rw [e6]
   rfl
 · rintro g cap w2 hown2 hgr hg hgl
   have hc:Chg w1 w2 o.ownBlock.toList:=Chg.of_grown hgr (fun k hk => .inl (by simp [hk]))
   have hlow:∀ k∈o.ownBlock.toList,base≤k∧k < w1.heap.size:=fun k hk => hown.lt k (Option.mem_toList.1 hk)
   have hFo:∀ k∈F',k∉o.ownBlock.toList:=fun k hk hm => ho.far k (Option.mem_toList.1 hm) hk
   have hgne:∀ A:Addr,A.block < w1.heap.size→o.ownBlock≠some A.block→A.block≠g:=fun A ha hn e => by
    rcases hg with h | h
    · exact hn (by rw [h,e])
    · omega
   have hgF:g∉F':=fun hm => by
    rcases hg with h | h
    · exact ho.far g h hm
    · have:=h2.lt g hm
      omega
   refine hK _ w2 ⟨h.chg.trans hc (fun k hk => .inl (List.mem_append_right _ hk)),fun h => absurd h (by omega),fun h => absurd h (by omega),(fun h => by cases h),fun _ => ⟨F',s',h1,h2.chg hc hFo (fun k hk => ?_),h3,(fun h => by cases h),fun _ => ?_,fun h => absurd h (by omega),fun _ => ⟨⟨rs ++ [γ 6],?_,?_,fun i r b hr hb => ?_⟩,fun g' hg' => ?_⟩⟩,(fun h => by cases h),fun _ => ⟨g,cap,?_⟩⟩
   · have:=hlow k hk
     omega
   · rw [upd_ne _ _ (by decide)]
     refine ⟨k1.chg hc (fun A n c e hm => (k2 A n c e).2.2 (Option.mem_toList.1 hm)),fun A n c e => ⟨(k2 A n c e).1,Nat.lt_of_lt_of_le (k2 A n c e).2.1 hc.size,(k2 A n c e).2.2⟩⟩
   · rw [upd_self]
     simpa using hown2
   · simp [hrl]
   · rw [upd_self]
     have hlast:∀ A n c,r = .slice (some A) n c→A.block∉F'∧A.block < w1.heap.size∧o.ownBlock≠some A.block→A.block∉F'∧A.block < w2.heap.size∧(Value.slice (some ⟨g,0,none⟩) (rs.length + 1) cap).ownBlock≠some A.block:=fun A n c e hh => ⟨hh.1,Nat.lt_of_lt_of_le hh.2.1 hc.size,fun e2 => by
      simp [Value.ownBlock] at e2
      exact hgne A hh.2.1 hh.2.2 e2.symm⟩
     by_cases hi:i < rs.length
     · rw [List.getElem?_append_left hi] at hr
       rw [List.getElem?_append_left (by omega)] at hb
       obtain ⟨q1,q2⟩:=hrs i r b hr hb
       exact ⟨q1.chg hc (fun A n c e hm => (q2 A n c e).2.2 (Option.mem_toList.1 hm)),fun A n c e => hlast A n c e (q2 A n c e)⟩
     · have hi2 : i = rs.length := by
        have:=(List.getElem?_eq_some_iff.1 hr).1
        simp at this
        omega
       subst hi2
       rw [List.getElem?_append_right (Nat.le_refl _),Nat.sub_self] at hr
       rw [hrl,List.getElem?_append_right (Nat.le_refl _),Nat.sub_self] at hb
       injection hr with hr
       injection hb with hb
       subst hr hb
       exact ⟨k1.chg hc (fun A n c e hm => (k2 A n c e).2.2 (Option.mem_toList.1 hm)),fun A n c e => hlast A n c e (k2 A n c e)⟩
   · rw [upd_self] at hg'
     simp [Value.ownBlock] at hg'
     subst hg'
     exact hgF
   · rw [upd_self,hrl]
end
set_option maxRecDepth 100000 in
set_option maxHeartbeats 4000000 in
theorem frun_calls {w:World} (hg:Glo w) {v:Value} {ls:List (List Nat)} (h:Rows w v ls) (h20:∀ b∈ls,b.length = 20) (hb:∀ b∈ls,∀ y∈b,y < 256) (hl:ls.length≤12) :
 Calls Tryz.prog 9 #[v] w fun e w' => ∃ u,e = .returned (.tuple #[u,.int .i64 ((ls.length:Int) * sumC marksFirm),.int .i64 0])∧Chg w w' []∧OutR w' w.heap.size [] u (framesL st0 ls):=by
 have hmix:=hide (show Tryz.prog.follows .mixedOrders = true by kernel_rfl)
 obtain ⟨A,cv,rfl,hx⟩:=h.open_
 have HX:=hide hx
 have HG:=hide hg
 have H20:=hide h20
 have HB:=hide hb
 have hi:=firm_image w hg
 clear h hx hg h20 hb
 go_enter Tryz.func9,Tryz.ntmps9
 go_wp2_with fail
 go_loopw [6,16] (fun _ i wr => ∃ j:Nat,j≤ls.length∧i = .int .i64 j∧w = wr) (fun _ i _ => ls.length - (intOf i).toNat)
 case atStart => exact ⟨0,Nat.zero_le _,rfl,rfl⟩
 case round =>
  obtain ⟨j,hj,rfl,rfl⟩:=hrel
  by_cases hlt:j < ls.length
  · obtain ⟨b,hjb⟩:∃ b,ls[j]? = some b:=⟨ls[j],by simp [hlt]⟩
    obtain ⟨bb,off,B,cb,rfl,hc,hs⟩:=HX.out j b hjb
    have t20:=H20.out b (List.mem_of_getElem? hjb)
    rw [t20] at hc
    clear hs hjb
    go_wp2
    go_roundw
    case rel => exact ⟨j + 1,by omega,by go_num,by first | rfl | trivial⟩
    case measure => simp [intOf]; omega
  · have hjl:j = ls.length:=by omega
    clear hlt hj
    subst hjl
    go_wp2_with fail
    go_at_call 19
    refine hi.mono ?_
    rintro e w1 ⟨vi,rfl,hc1,him⟩
    clear hi
    obtain ⟨v1,v2,v3,v4,v5,rfl,g1,g2,g3,g4,g5⟩:=id him
    obtain ⟨a1,c1,rfl,_⟩:=id g1
    obtain ⟨a2,c2,rfl,_⟩:=id g2
    obtain ⟨a3,c3,rfl,_⟩:=id g3
    obtain ⟨a4,c4,rfl,_⟩:=id g4
    obtain ⟨a5,c5,rfl,_⟩:=id g5
    generalize (u32s ((wordsOf codeFirm 2921).map fun w:Nat => (w:Int))).length = n1 at *
    generalize (i32s dataFirm).length = n2 at *
    generalize (bools secFirm).length = n3 at *
    generalize (ints [0,1,2,3,4,5,6,7,8,9,10,11,12,13,14,15,16,17,18,19]).length = n4 at *
    generalize (ints outsFirm).length = n5 at *
    have hcA:Chg w1 (w1.alloc (.cells #[.slice a1 n1 c1,.slice a2 n2 c2,.slice a3 n3 c3,.slice a4 n4 c4,.slice a5 n5 c5] 42)) []:=(Chg.refl w1 []).alloc _
    have hgA:=HG.out.chg (hc1.trans hcA (by simp)) (by simp)
    have hnew:=fnew_calls hgA (g1.keep hcA) (g2.keep hcA)
    have hbl:=Blk.new w1 42 [.slice a1 n1 c1,.slice a2 n2 c2,.slice a3 n3 c3,.slice a4 n4 c4,.slice a5 n5 c5]
    have himk:=fimg_lt him
    have HIMA:=hide (him.keep hcA)
    have HIML:=hide himk
    have HBL:=hide hbl
    have HC1:=hide (show Chg w (w1.alloc (.cells #[.slice a1 n1 c1,.slice a2 n2 c2,.slice a3 n3 c3,.slice a4 n4 c4,.slice a5 n5 c5] 42)) [] from hc1.trans hcA (by simp))
    have hzA:(w1.alloc (.cells #[.slice a1 n1 c1,.slice a2 n2 c2,.slice a3 n3 c3,.slice a4 n4 c4,.slice a5 n5 c5] 42)).heap.size = w1.heap.size + 1:=size_alloc _ _
    have HZA:=hide hzA
    clear hc1 hcA hgA him g1 g2 g3 g4 g5 hbl himk hzA
    go_wp2_with fail
    go_at_call 20
    refine hnew.mono ?_
    rintro e w2 ⟨cc,F0,rfl,hc2,hfc,hF0⟩
    have HF0:=hide (show ∀ k∈F0,w1.heap.size < k∧w.heap.size≤k from fun k hk => by have:=hF0 k hk; have:=HZA.out; have:=HC1.out.size; omega)
    have HFC0:=hide hfc
    have HC2:=hide (HC1.out.trans hc2 (by simp))
    have HBL2:=hide (HBL.out.chg hc2 (by simp))
    have HIM2:=hide (HIMA.out.keep hc2)
    clear hnew hc2 hfc hF0 HIMA HBL HC1
    generalize hP7:w1.heap.size = P7 at *
    have HQB0:=hide (show 8≤w2.heap.size from Nat.le_trans HG.out.size HC2.out.size)
    obtain ⟨κ,hκ⟩:∃ κ,sumC marksFirm = κ:=⟨_,rfl⟩
    have HK:=hide (show 0≤κ∧κ≤100000 from hκ ▸ sumC_marksF)
    have Hκ:=hide hκ
    clear hκ
    have HIF0:=hide (show ∀ k∈imgF (.agg #[.slice a1 n1 c1,.slice a2 n2 c2,.slice a3 n3 c3,.slice a4 n4 c4,.slice a5 n5 c5]),k∉F0 from fun k hk hm => by
     have:=HIML.out k hk
     have:=HF0.out k hm
     omega)
    have HP7:=hide (show P7∉F0∧P7 < w2.heap.size from ⟨fun hm => by have:=HF0.out _ hm; omega,HBL2.out.lt⟩)
    go_wp2_with fail
    go_loopw [10,11,13,38] (fun o cst _ i wr => ∃ j:Nat,j≤ls.length∧i = .int .i64 j∧cst = .int .i64 ((j:Int) * κ)∧Hid (Chg w2 wr F0)∧Hid (∃ F s,Sub F F0 w2∧FC wr cc (stateL st0 (ls.take j)) s F)∧Hid (∃ F,(∃ s,FC wr cc (stateL st0 (ls.take j)) s F)∧Sub F F0 w2∧OutR wr w2.heap.size F o (framesL st0 (ls.take j)))) (fun _ _ _ i _ => ls.length - (intOf i).toNat)
    case atStart => exact ⟨0,Nat.zero_le _,rfl,by simp,hide (Chg.refl _ _),hide ⟨F0,_,Sub.refl _ _,HFC0.out⟩,hide ⟨F0,⟨_,HFC0.out⟩,Sub.refl _ _,⟨⟨[],World.ownsRow_nil _ _ _ _,rfl,fun i r b h => by simp at h⟩,fun g h => by simp [Value.ownBlock] at h⟩⟩⟩
    case round =>
     clear HFC0
     obtain ⟨o,hou⟩:∃ o,o = u10:=⟨_,rfl⟩
     subst hou
     obtain ⟨j,hj,rfl,rfl,HC,_,HO0⟩:=hrel
     obtain ⟨F,⟨s,hfc⟩,hsF,ho⟩:=HO0.out
     have hcw:Chg w wr []:=HC2.out.trans HC.out (fun k hk => .inr (HF0.out k hk).2)
     by_cases hlt:j < ls.length
     · obtain ⟨b,hjb⟩:∃ b,ls[j]? = some b:=⟨ls[j],by simp [hlt]⟩
       obtain ⟨bb,off,B,cb,rfl,hcl,hsl⟩:=HX.out j b hjb
       have hcl':=hcw.cell hcl (by simp)
       have HSB:=hide (hsl.keep hcw)
       have HGr:=hide (HG.out.chg hcw (by simp))
       have HBLn:=hide (H20.out b (List.mem_of_getElem? hjb))
       have HBB:=hide (HB.out b (List.mem_of_getElem? hjb))
       have hst:stateL st0 (ls.take (j + 1)) = (stateL st0 (ls.take j)).next b:=by rw [List.take_add_one,hjb]; exact stateL_snoc _ _ _
       have hfr:framesL st0 (ls.take (j + 1)) = framesL st0 (ls.take j) ++ [((stateL st0 (ls.take j)).next b).frame (flN b)]:=by rw [List.take_add_one,hjb]; exact framesL_snoc _ _ _
       have HST:=hide hst
       have HFRM:=hide hfr
       have HXR:=hide (stateL_right st0_right (ls.take j))
       have hfl:=framesL_len st0 (ls.take j)
       have HFS:=hide (show (framesL st0 (ls.take j)).length≤1000 from by rw [hfl]; simp; omega)
       have HFL:=hide (show (framesL st0 (ls.take j)).length = j from by rw [hfl]; simp; omega)
       clear hst hfr hfl hjb hcl hsl HO0
       generalize stateL st0 (ls.take j) = x at *
       generalize framesL st0 (ls.take j) = fs at *
       have hbr:Blk wr P7 42 [.slice a1 n1 c1,.slice a2 n2 c2,.slice a3 n3 c3,.slice a4 n4 c4,.slice a5 n5 c5]:=HBL2.out.chg HC.out HP7.out.1
       have HP0:=hide (hbr.cell' (i:=0) rfl)
       have HP1:=hide (hbr.cell' (i:=1) rfl)
       have HP2:=hide (hbr.cell' (i:=2) rfl)
       have HP3:=hide (hbr.cell' (i:=3) rfl)
       have HP4:=hide (hbr.cell' (i:=4) rfl)
       have hPF:P7∉F:=fun hm => by
        rcases hsF _ hm with h | h
        · exact HP7.out.1 h
        · have:=HP7.out.2
          omega
       have HPF:=hide (show P7∉F ++ o.ownBlock.toList from fun hm => by
        rcases List.mem_append.1 hm with h | h
        · exact hPF h
        · obtain ⟨rs,hown,_⟩:=ho.row
          have:=(hown.lt P7 (Option.mem_toList.1 h)).1
          have:=HP7.out.2
          omega)
       have HIM:=hide (show FImg wr (.agg #[.slice a1 n1 c1,.slice a2 n2 c2,.slice a3 n3 c3,.slice a4 n4 c4,.slice a5 n5 c5]) from fimg_chg HIM2.out HC.out HIF0.out)
       have HIF:=hide (show ∀ k∈imgF (.agg #[.slice a1 n1 c1,.slice a2 n2 c2,.slice a3 n3 c3,.slice a4 n4 c4,.slice a5 n5 c5]),k∉F from fun k hk hm => by
        rcases hsF k hm with h | h
        · exact HIF0.out k hk h
        · have:=HIML.out k hk
          have:=HP7.out.2
          omega)
       have HFC:=hide hfc
       have HO:=hide ho
       have HSF:=hide hsF
       have HCR:=hide hcw
       have HBZ:=hide (show w2.heap.size≤wr.heap.size from HC.out.size)
       have HG:=HGr
       have HQB:=HQB0
       clear hbr hPF hfc ho hsF hcw
       generalize hbs:w2.heap.size = base at *
       have HBL:=HBLn
       go_wp2_with fail
       go_upto_region 16 with (fail)
       refine wp_regionJ hmix.out _ _ (fun γ => vFR a1 a2 a3 a4 a5 n1 c1 n2 c2 n3 c3 n4 c4 n5 c5 cc o (.slice B b.length cb) γ) (fun (γ:Gh) L w' => SFR wr cc x b F base o fs γ (cntE L [4,5,6,7,8]) w') (fun _ => undef) (by kernel_rfl) [] (by kernel_rfl) (fun p hp γ => by simp at hp) (by kernel_rfl) ?step ?start ?fin ?ext
       case start => exact SFR.zero (Chg.refl _ _)
       case ext =>
        intro γ L L' w' h hw
        have e:cntE L [4,5,6,7,8] = cntE L' [4,5,6,7,8]:=cntE_ext fun x hx => h x (by simp at hx; rcases hx with rfl | rfl | rfl | rfl | rfl <;> decide)
        have hw':SFR wr cc x b F base o fs γ (cntE L [4,5,6,7,8]) w':=hw
        rw [e] at hw'
        exact hw'
       case step =>
        intro i o_ ho_ L av w1 γ hdn htm hW hL hpre K' Q' hK
        match i,ho_ with
        | 0,ho =>
         injection ho with ho; subst ho
         have b10:av.tmps.getD 10 undef = o:=slN htm 10 9 (by kernel_rfl) (by cases h:L 9 with | false => rfl | true => (have hx:L 0 = true:=hdn 9 _ rfl h ⟨0,.phase⟩ (by simp) rfl; rw [hL] at hx; cases hx))
         clear htm
         refine val_now ?_ (hK γ w1 (fun _ _ => rfl) (show SFR wr cc x b F base o fs γ (cntE _ [4,5,6,7,8]) w1 from by rw [cntE_keep (by decide)]; exact hW)); go_simp; rfl
        | 1,ho =>
         injection ho with ho; subst ho
         have b8:av.tmps.getD 8 undef = .pointer (some ⟨cc,0,none⟩):=slB htm 8 (by kernel_rfl)
         clear htm
         refine val_now ?_ (hK γ w1 (fun _ _ => rfl) (show SFR wr cc x b F base o fs γ (cntE _ [4,5,6,7,8]) w1 from by rw [cntE_keep (by decide)]; exact hW)); go_simp; rfl
        | 2,ho =>
         injection ho with ho; subst ho
         have b7:av.tmps.getD 7 undef = .pointer (some ⟨P7,0,none⟩):=slB htm 7 (by kernel_rfl)
         clear htm
         have y0:=hW.chg.cell HP0.out HPF.out
         have y1:=hW.chg.cell HP1.out HPF.out
         have y2:=hW.chg.cell HP2.out HPF.out
         have y3:=hW.chg.cell HP3.out HPF.out
         have y4:=hW.chg.cell HP4.out HPF.out
         refine val_now ?_ (hK γ w1 (fun _ _ => rfl) (show SFR wr cc x b F base o fs γ (cntE _ [4,5,6,7,8]) w1 from by rw [cntE_keep (by decide)]; exact hW)); go_simp; rfl
        | 3,ho =>
         injection ho with ho; subst ho
         have b13:av.tmps.getD 13 undef = .slice B b.length cb:=slB htm 13 (by kernel_rfl)
         clear htm
         refine val_now ?_ (hK γ w1 (fun _ _ => rfl) (show SFR wr cc x b F base o fs γ (cntE _ [4,5,6,7,8]) w1 from by rw [cntE_keep (by decide)]; exact hW)); go_simp; rfl
        | 4,ho =>
         injection ho with ho; subst ho
         have s3:=slA htm 45 3 (by kernel_rfl) (hpre ⟨3,.data⟩ (by simp) rfl)
         simp only [vFR] at s3
         clear htm
         have nn5:L 5 = false:=by
          cases h:L 5 with
          | false => rfl
          | true => have hx:L 4 = true:=hdn 5 _ rfl h ⟨4,.data⟩ (by simp) rfl; rw [hL] at hx; cases hx
         have hS:SFR wr cc x b F base o fs γ 0 w1:=by
          have h:SFR wr cc x b F base o fs γ (cntE L [4,5,6,7,8]) w1:=hW
          rwa [show cntE L [4,5,6,7,8] = 0 by simp [cntE,hL]] at h
         have hm:cntE (fun e => if e = 4 then true else L e) [4,5,6,7,8] = 1:=by simp [cntE,nn5]
         refine call_now (f:=23) (args:=#[.slice B b.length cb]) ?_ (fwords_calls (HSB.out.keep (hS.q (by omega))) HBB.out (by rw [HBL.out]; decide)) ?_
         · go_simp
         · rintro e w2 ⟨u,rfl,hc,hu,hn⟩
           exact ⟨_,rfl,hK (upd γ 4 u) w2 (agree_of hdn [4] (by kernel_rfl) hL (agFR_4 a1 a2 a3 a4 a5 n1 c1 n2 c2 n3 c3 n4 c4 n5 c5 cc o (.slice B b.length cb) γ _)) (show SFR wr cc x b F base o fs _ (cntE _ [4,5,6,7,8]) _ from by rw [hm]; exact hS.words hc hu hn)⟩
        | 5,ho =>
         injection ho with ho; subst ho
         have s1:=slA htm 43 1 (by kernel_rfl) (hpre ⟨1,.data⟩ (by simp) rfl)
         have s2:=slA htm 44 2 (by kernel_rfl) (hpre ⟨2,.data⟩ (by simp) rfl)
         have l4:=hpre ⟨4,.data⟩ (by simp) rfl
         have s4:=slA htm 46 4 (by kernel_rfl) l4
         simp only [vFR] at s1 s2 s4
         clear htm
         have l4:L 4 = true:=hpre ⟨4,.data⟩ (by simp) rfl
         have nn6:L 6 = false:=by
          cases h:L 6 with
          | false => rfl
          | true => have hx:L 5 = true:=hdn 6 _ rfl h ⟨5,.data⟩ (by simp) rfl; rw [hL] at hx; cases hx
         have hS:SFR wr cc x b F base o fs γ 1 w1:=by
          have h:SFR wr cc x b F base o fs γ (cntE L [4,5,6,7,8]) w1:=hW
          rwa [show cntE L [4,5,6,7,8] = 1 by simp [cntE,hL,l4]] at h
         have hm:cntE (fun e => if e = 5 then true else L e) [4,5,6,7,8] = 2:=by simp [cntE,l4,nn6]
         obtain ⟨hu1,hu2⟩:=hS.s1 rfl
         refine call_now (f:=22) (args:=#[.pointer (some ⟨cc,0,none⟩),.agg #[.slice a1 n1 c1,.slice a2 n2 c2,.slice a3 n3 c3,.slice a4 n4 c4,.slice a5 n5 c5],γ 4]) ?_ (fagain_calls (HG.out.chg (hS.q (by omega)) (by simp)) (HFC.out.chg0 (hS.q (by omega))) HXR.out (HIM.out.keep (hS.q (by omega))) HIF.out HBL.out HBB.out hu1 (fun k hk hm => by
          cases hg4:γ 4 with
          | slice A n c => rw [hg4] at hk; cases A with
           | none => cases hk
           | some ad =>
            obtain ⟨bk,ofs,sp⟩:=ad
            cases sp with
            | none => have hk:bk = k:=Option.some.inj hk; have h1:=hu2 _ n c hg4; have h2:=HFC.out.lt k hm; have h1:wr.heap.size≤bk:=h1; omega
            | some _ => cases hk
          | _ => rw [hg4] at hk; cases hk)) ?_
         · go_simp
         · rintro e w2 ⟨u,F',s',rfl,hc,hs,hk,hd,ho⟩
           exact ⟨_,rfl,hK (upd γ 5 u) w2 (agree_of hdn [5] (by kernel_rfl) hL (agFR_5 a1 a2 a3 a4 a5 n1 c1 n2 c2 n3 c3 n4 c4 n5 c5 cc o (.slice B b.length cb) γ _)) (show SFR wr cc x b F base o fs _ (cntE _ [4,5,6,7,8]) _ from by rw [hm]; exact hS.again HO.out hc hs hk hd (Sl.own ho))⟩
        | 6,ho =>
         injection ho with ho; subst ho
         have l5:=hpre ⟨5,.data⟩ (by simp) rfl
         have s5:=slA htm 47 5 (by kernel_rfl) l5
         simp only [vFR] at s5
         clear htm
         have l5:L 5 = true:=hpre ⟨5,.data⟩ (by simp) rfl
         have l4:L 4 = true:=hdn 5 _ rfl l5 ⟨4,.data⟩ (by simp) rfl
         have nn7:L 7 = false:=by
          cases h:L 7 with
          | false => rfl
          | true => have hx:L 6 = true:=hdn 7 _ rfl h ⟨6,.data⟩ (by simp) rfl; rw [hL] at hx; cases hx
         have hS:SFR wr cc x b F base o fs γ 2 w1:=by
          have h:SFR wr cc x b F base o fs γ (cntE L [4,5,6,7,8]) w1:=hW
          rwa [show cntE L [4,5,6,7,8] = 2 by simp [cntE,hL,l4,l5]] at h
         have hm:cntE (fun e => if e = 6 then true else L e) [4,5,6,7,8] = 3:=by simp [cntE,l4,l5,nn7]
         obtain ⟨F',s',_,_,_,hu5,_⟩:=hS.s2 (by omega)
         refine call_now (f:=21) (args:=#[γ 5]) ?_ (fbytes_calls (hu5 rfl) (Xi.frame_lt (x.next b) (Xi.flN_in b)) (by rw [Xi.frame_len]; decide)) ?_
         · go_simp
         · rintro e w2 ⟨u,rfl,hc,hu,hn⟩
           exact ⟨_,rfl,hK (upd γ 6 u) w2 (agree_of hdn [6] (by kernel_rfl) hL (agFR_6 a1 a2 a3 a4 a5 n1 c1 n2 c2 n3 c3 n4 c4 n5 c5 cc o (.slice B b.length cb) γ _)) (show SFR wr cc x b F base o fs _ (cntE _ [4,5,6,7,8]) _ from by rw [hm]; exact hS.bytes hc hu hn)⟩
        | 7,ho =>
         injection ho with ho; subst ho
         have l6:=hpre ⟨6,.data⟩ (by simp) rfl
         have s6:=slA htm 48 6 (by kernel_rfl) l6
         simp only [vFR] at s6
         clear htm
         have l6:L 6 = true:=hpre ⟨6,.data⟩ (by simp) rfl
         have l5:L 5 = true:=hdn 6 _ rfl l6 ⟨5,.data⟩ (by simp) rfl
         have l4:L 4 = true:=hdn 5 _ rfl l5 ⟨4,.data⟩ (by simp) rfl
         have nn8:L 8 = false:=by
          cases h:L 8 with
          | false => rfl
          | true => have hx:L 7 = true:=hdn 8 _ rfl h ⟨7,.data⟩ (by simp) rfl; rw [hL] at hx; cases hx
         have hS:SFR wr cc x b F base o fs γ 3 w1:=by
          have h:SFR wr cc x b F base o fs γ (cntE L [4,5,6,7,8]) w1:=hW
          rwa [show cntE L [4,5,6,7,8] = 3 by simp [cntE,hL,l4,l5,l6]] at h
         have hm:cntE (fun e => if e = 7 then true else L e) [4,5,6,7,8] = 4:=by simp [cntE,l4,l5,l6,nn8]
         obtain ⟨F',s',_,_,_,_,hu6,_⟩:=hS.s2 (by omega)
         obtain ⟨A6,c6,e6,_⟩:=id (hu6 (by omega)).1
         have hS7:=hS.lit e6
         rw [e6] at s6
         have s6':=s6
         rw [Array.getD_eq_getD_getElem?] at s6'
         refine val_now (v:=.slice (some ⟨w1.heap.size,0,none⟩) 1 1) (w':=w1.alloc (.cells #[.slice A6 (u8s ((x.next b).frame (flN b))).length c6] 31)) ?_ (hK (upd γ 7 (.slice (some ⟨w1.heap.size,0,none⟩) 1 1)) _ (agree_of hdn [7] (by kernel_rfl) hL (agFR_7 a1 a2 a3 a4 a5 n1 c1 n2 c2 n3 c3 n4 c4 n5 c5 cc o (.slice B b.length cb) γ _)) (show SFR wr cc x b F base o fs _ (cntE _ [4,5,6,7,8]) _ from by rw [hm]; exact hS7))
         go_simp
        | 8,ho =>
         injection ho with ho; subst ho
         have s0:=slA htm 42 0 (by kernel_rfl) (hpre ⟨0,.data⟩ (by simp) rfl)
         have l7:=hpre ⟨7,.data⟩ (by simp) rfl
         have s7:=slA htm 49 7 (by kernel_rfl) l7
         simp only [vFR] at s0 s7
         clear htm
         have l7:L 7 = true:=hpre ⟨7,.data⟩ (by simp) rfl
         have l6:L 6 = true:=hdn 7 _ rfl l7 ⟨6,.data⟩ (by simp) rfl
         have l5:L 5 = true:=hdn 6 _ rfl l6 ⟨5,.data⟩ (by simp) rfl
         have l4:L 4 = true:=hdn 5 _ rfl l5 ⟨4,.data⟩ (by simp) rfl
         have hS:SFR wr cc x b F base o fs γ 4 w1:=by
          have h:SFR wr cc x b F base o fs γ (cntE L [4,5,6,7,8]) w1:=hW
          rwa [show cntE L [4,5,6,7,8] = 4 by simp [cntE,hL,l4,l5,l6,l7]] at h
         have hm:cntE (fun e => if e = 8 then true else L e) [4,5,6,7,8] = 5:=by simp [cntE,l4,l5,l6,l7]
         exact hS.put HFS.out (Nat.le_trans HBZ.out hS.chg.size) HQB.out rfl rfl rfl s0 s7 (fun u w2 h => hK (upd γ 8 u) w2 (agree_of hdn [8,9] (by kernel_rfl) hL (agFR_8 a1 a2 a3 a4 a5 n1 c1 n2 c2 n3 c3 n4 c4 n5 c5 cc o (.slice B b.length cb) γ _)) (show SFR wr cc x b F base o fs _ (cntE _ [4,5,6,7,8]) _ from by rw [hm]; exact h))
        | 9,ho =>
         injection ho with ho; subst ho
         have s8:=slA htm 50 8 (by kernel_rfl) (hpre ⟨8,.data⟩ (by simp) rfl)
         simp only [vFR] at s8
         clear htm
         refine val_now ?_ (hK γ w1 (fun _ _ => rfl) (show SFR wr cc x b F base o fs γ (cntE _ [4,5,6,7,8]) w1 from by rw [cntE_keep (by decide)]; exact hW)); go_simp; rfl
        | _ + 10,ho => cases ho
       case fin =>
       intro γ w5 hW
       have hW:SFR wr cc x b F base o fs γ 5 w5:=hW
       obtain ⟨F',s',hs1,hfc',hd,_,_,_,hout⟩:=hW.s2 (by omega)
       obtain ⟨g8,c8,e8⟩:=hW.s5 (by omega)
       have hout:=hout (by omega)
       have hcy:∃ mem,CoreAt w5 cc (wordsOf codeFirm 2921) s' (mem.map (·.v)) F'∧FMem (s7 (x.next b)) mem:=hfc'
       obtain ⟨mem,hcore,_⟩:=hcy
       have hcyc:=icycles_calls hcore
       rw [hd.2.2] at hcyc
       have HCY:=hide hcyc
       have HC5:=hide (show Chg w2 w5 F0 from HC.out.trans hW.chg (fun k hk => by
        rcases List.mem_append.1 hk with h | h
        · exact (HSF.out k h).imp_right fun e => by omega
        · obtain ⟨rs,hown,_⟩:=HO.out.row
          have:=(hown.lt k (Option.mem_toList.1 h)).1
          exact .inr (by omega)))
       have HS5:=hide (show Sub F' F0 w2 from fun k hk => by
        rcases hs1 k hk with h | h
        · exact (HSF.out k h).imp_right fun e => by omega
        · exact .inr (by have:=HBZ.out; omega))
       have HFC5:=hide hfc'
       have HO5:=hide hout
       clear hW hs1 hfc' hd hout hcore hcyc
       rw [finG_puts,putsR_list,putsL_dst]
       simp only [List.map_cons,List.map_nil]
       rw [putsFR]
       simp only [vFR]
       rw [e8] at HO5 ⊢
       clear e8
       have hmul:((j + 1:Nat):Int) * κ = (j:Int) * κ + κ:=by push_cast; rw [Int.add_mul,Int.one_mul]
       have hm0:0≤(j:Int) * κ:=Int.mul_nonneg (by omega) HK.out.1
       have hm1:(j:Int) * κ≤12 * 100000:=Int.mul_le_mul (by omega) HK.out.2 HK.out.1 (by omega)
       have HMUL:=hide hmul
       have hk0:=HK.out
       clear hmul
       generalize (j:Int) * κ = m at *
       have hwr:wrap64 (m + κ) = m + κ:=by unfold wrap64; omega
       go_wp2_with fail
       go_at_call 24
       refine HCY.out.mono ?_
       rintro e w6 ⟨rfl,rfl⟩
       clear HCY
       go_wp2
       go_roundw
       case rel => exact ⟨j + 1,by omega,by go_num,by rw [HMUL.out,Hκ.out,hwr],HC5,hide ⟨F',s',by rw [hbs] at *; exact HS5.out,by rw [HST.out]; exact HFC5.out⟩,hide ⟨F',⟨s',by rw [HST.out]; exact HFC5.out⟩,HS5.out,by rw [HFRM.out]; exact HO5.out⟩⟩
       case measure => simp [intOf]; omega
     · have hjl:j = ls.length:=by omega
       subst hjl
       rw [List.take_length] at ho
       have HOF:=hide (ho.weak (base':=w.heap.size) HC2.out.size)
       have HCF:=hide hcw
       clear ho hcw hfc hsF HO0
       go_wp2
       go_ret3
       exact ⟨_,by rw [Hκ.out]; rfl,HCF.out,HOF.out⟩
end Go.Proofs.YtjcgiddgafjdpaaGreatDoor

/- The laws of the filter's firm: what is right, what is refused, the example. -/
namespace Go.Proofs.YtjcgiddgafjdpaaGreatDoor
open Go Go.RowKit Go.Deep Go.Maps Go.Proofs.YtjcgiddgafjdpaaGreatDoor.Ab Go.Proofs.YtjcgiddgafjdpaaGreatDoor.Xi
set_option linter.unusedVariables false
attribute [local go_sem] Oper.semAt_some
theorem mk20f (w:World):(Instr.makeSlice 31 (.int .i64 20) (.int .i64 20)).run Tryz.prog w = .ok (.slice (some ⟨w.heap.size,0,none⟩) 20 20) (w.alloc (.cells #[.int .u8 0,.int .u8 0,.int .u8 0,.int .u8 0,.int .u8 0,.int .u8 0,.int .u8 0,.int .u8 0,.int .u8 0,.int .u8 0,.int .u8 0,.int .u8 0,.int .u8 0,.int .u8 0,.int .u8 0,.int .u8 0,.int .u8 0,.int .u8 0,.int .u8 0,.int .u8 0] 5)):=by kernel_rfl
theorem sl20f (w:World):Sl (w.alloc (.cells #[.int .u8 0,.int .u8 0,.int .u8 0,.int .u8 0,.int .u8 0,.int .u8 0,.int .u8 0,.int .u8 0,.int .u8 0,.int .u8 0,.int .u8 0,.int .u8 0,.int .u8 0,.int .u8 0,.int .u8 0,.int .u8 0,.int .u8 0,.int .u8 0,.int .u8 0,.int .u8 0] 5)) (.slice (some ⟨w.heap.size,0,none⟩) 20 20) (u8s z20) :=
 Sl.blk' (Blk.new w 5 (u8s z20)) rfl (Nat.le_refl _)
theorem right38_yes {w:World} {v:Value} {ls:List (List Nat)} (h:Rows w v ls) (h20:∀ b∈ls,b.length = 20) (hl:ls.length≤12) :
 Calls Tryz.prog 7 #[v] w fun e w' => e = .returned (.bool true)∧w = w':=by
 obtain ⟨A,cv,rfl,hx⟩:=h.open_
 have HX:=hide hx
 have H20:=hide h20
 have k1:decide ((ls.length:Int)≤12) = true:=by simp; omega
 clear h hx h20
 go_enter Tryz.func7,Tryz.ntmps7
 go_wp2_with fail
 go_loopw [3] (fun i wr => ∃ j:Nat,j≤ls.length∧i = .int .i64 j∧w = wr) (fun i _ => ls.length - (intOf i).toNat)
 case atStart => exact ⟨0,Nat.zero_le _,rfl,rfl⟩
 case round =>
  obtain ⟨j,hj,rfl,rfl⟩:=hrel
  by_cases hlt:j < ls.length
  · obtain ⟨b,hjb⟩:∃ b,ls[j]? = some b:=⟨ls[j],by simp [hlt]⟩
    obtain ⟨bb,off,B,cb,rfl,hc,hs⟩:=HX.out j b hjb
    have t20:=H20.out b (List.mem_of_getElem? hjb)
    rw [t20] at hc
    clear hs hjb
    go_wp2
    go_roundw
    case rel => exact ⟨j + 1,by omega,by go_num,by first | rfl | trivial⟩
    case measure => simp [intOf]; omega
  · have hjl:j = ls.length:=by omega
    clear hlt hj
    subst hjl
    go_wp2
    go_ret
    exact ⟨rfl,rfl⟩
theorem right38_no {w:World} {v:Value} {ls:List (List Nat)} (h:Rows w v ls) {p:Nat} {b0:List Nat} (hp:ls[p]? = some b0) (hb:b0.length≠20) (hl:ls.length≤12) :
 Calls Tryz.prog 7 #[v] w fun e w' => e = .returned (.bool false)∧w = w':=by
 obtain ⟨A,cv,rfl,hx⟩:=h.open_
 have HX:=hide hx
 have HP:=hide hp
 have HB:=hide hb
 have hpl:p < ls.length:=(List.getElem?_eq_some_iff.1 hp).1
 clear h hx hp hb
 go_enter Tryz.func7,Tryz.ntmps7
 go_wp2_with fail
 go_loopw [3] (fun i wr => ∃ j:Nat,j≤p∧i = .int .i64 j∧w = wr) (fun i _ => ls.length - (intOf i).toNat)
 case atStart => exact ⟨0,Nat.zero_le _,rfl,rfl⟩
 case round =>
  obtain ⟨j,hj,rfl,rfl⟩:=hrel
  have hlt:j < ls.length:=by omega
  obtain ⟨b,hjb⟩:∃ b,ls[j]? = some b:=⟨ls[j],by simp [hlt]⟩
  obtain ⟨bb,off,B,cb,rfl,hc,hs⟩:=HX.out j b hjb
  by_cases t20:b.length = 20
  · have hne:j≠p:=fun e => by subst e; have:=hjb.symm.trans HP.out; exact HB.out (Option.some.inj this ▸ t20)
    rw [t20] at hc
    clear hs hjb
    go_wp2
    go_roundw
    case rel => exact ⟨j + 1,by omega,by go_num,by first | rfl | trivial⟩
    case measure => simp [intOf]; omega
  · have k1:((b.length:Int) == 20) = false:=by simp; omega
    have k2:((b.length:Int) != 20) = true:=by simp; omega
    clear hs hjb t20
    go_wp2
    go_ret
    exact ⟨rfl,rfl⟩
theorem frun_bad {w:World} {v:Value} {ls:List (List Nat)} (h:Rows w v ls) {p:Nat} {b0:List Nat} (hp:ls[p]? = some b0) (hb:b0.length≠20) (hl:ls.length≤12) :
 Calls Tryz.prog 9 #[v] w fun e w' => e = .returned (.tuple #[.slice none 0 0,.int .i64 0,.int .i64 2])∧w = w':=by
 obtain ⟨A,cv,rfl,hx⟩:=h.open_
 have HX:=hide hx
 have HP:=hide hp
 have HB:=hide hb
 have hpl:p < ls.length:=(List.getElem?_eq_some_iff.1 hp).1
 clear h hx hp hb
 go_enter Tryz.func9,Tryz.ntmps9
 go_wp2_with fail
 go_loopw [6,16] (fun _ i wr => ∃ j:Nat,j≤p∧i = .int .i64 j∧w = wr) (fun _ i _ => ls.length - (intOf i).toNat)
 case atStart => exact ⟨0,Nat.zero_le _,rfl,rfl⟩
 case round =>
  obtain ⟨j,hj,rfl,rfl⟩:=hrel
  have hlt:j < ls.length:=by omega
  obtain ⟨b,hjb⟩:∃ b,ls[j]? = some b:=⟨ls[j],by simp [hlt]⟩
  obtain ⟨bb,off,B,cb,rfl,hc,hs⟩:=HX.out j b hjb
  by_cases t20:b.length = 20
  · have hne:j≠p:=fun e => by subst e; have:=hjb.symm.trans HP.out; exact HB.out (Option.some.inj this ▸ t20)
    rw [t20] at hc
    clear hs hjb
    go_wp2
    go_roundw
    case rel => exact ⟨j + 1,by omega,by go_num,by first | rfl | trivial⟩
    case measure => simp [intOf]; omega
  · have k1:((b.length:Int) == 20) = false:=by simp; omega
    have k2:((b.length:Int) != 20) = true:=by simp; omega
    clear hs hjb t20
    go_wp2
    go_ret3
    exact ⟨rfl,rfl⟩
theorem rep0:∃ y4 y5 y6 y7 y8 y9 y10:Int,(st0.next z20).rep (flN z20) = .agg #[.int .i64 1,.int .i64 1,.int .i64 1,.int .i64 0,.int .i32 y4,.int .i32 y5,.int .i32 y6,.int .i32 y7,.int .i32 y8,.int .i32 y9,.int .i32 y10]:=by
 rw [st0_next,z20_flags]
 unfold Xi.St.rep
 rw [q1_lock]
 exact ⟨_,_,_,_,_,_,_,rfl⟩
set_option maxRecDepth 100000 in
set_option maxHeartbeats 2000000 in
theorem awake38_calls {w:World} (hg:Glo w):Calls Tryz.prog 8 #[] w fun e w' => e = .returned (.bool true)∧Chg w w' []:=by
 have hmk:=mk20f
 have hcA:=(Chg.refl w []).alloc (.cells #[.int .u8 0,.int .u8 0,.int .u8 0,.int .u8 0,.int .u8 0,.int .u8 0,.int .u8 0,.int .u8 0,.int .u8 0,.int .u8 0,.int .u8 0,.int .u8 0,.int .u8 0,.int .u8 0,.int .u8 0,.int .u8 0,.int .u8 0,.int .u8 0,.int .u8 0,.int .u8 0] 5)
 have hz:=size_alloc w (.cells #[.int .u8 0,.int .u8 0,.int .u8 0,.int .u8 0,.int .u8 0,.int .u8 0,.int .u8 0,.int .u8 0,.int .u8 0,.int .u8 0,.int .u8 0,.int .u8 0,.int .u8 0,.int .u8 0,.int .u8 0,.int .u8 0,.int .u8 0,.int .u8 0,.int .u8 0,.int .u8 0] 5)
 have hsl:=sl20f w
 have hb:=Blk.new (w.alloc (.cells #[.int .u8 0,.int .u8 0,.int .u8 0,.int .u8 0,.int .u8 0,.int .u8 0,.int .u8 0,.int .u8 0,.int .u8 0,.int .u8 0,.int .u8 0,.int .u8 0,.int .u8 0,.int .u8 0,.int .u8 0,.int .u8 0,.int .u8 0,.int .u8 0,.int .u8 0,.int .u8 0] 5)) 31 [.slice (some ⟨w.heap.size,0,none⟩) 20 20]
 have hcB:=(Chg.refl (w.alloc (.cells #[.int .u8 0,.int .u8 0,.int .u8 0,.int .u8 0,.int .u8 0,.int .u8 0,.int .u8 0,.int .u8 0,.int .u8 0,.int .u8 0,.int .u8 0,.int .u8 0,.int .u8 0,.int .u8 0,.int .u8 0,.int .u8 0,.int .u8 0,.int .u8 0,.int .u8 0,.int .u8 0] 5)) []).alloc (.cells #[.slice (some ⟨w.heap.size,0,none⟩) 20 20] 31)
 rw [hz] at hb
 have hrows:Rows _ (.slice (some ⟨w.heap.size + 1,0,none⟩) 1 1) [z20]:=⟨_,Sl.blk' hb rfl (Nat.le_refl _),rfl,fun i r b hr hbb => by
  match i with
  | 0 =>
   obtain rfl:=Option.some.inj hr
   obtain rfl:=Option.some.inj hbb
   exact hsl.keep hcB
  | i + 1 => simp at hr⟩
 have hch:=hcA.trans hcB (D:=[]) (by simp)
 have hrun:=frun_calls (hg.chg hch (by simp)) hrows (by simp [z20]) (fun b hb y hy => by
  simp at hb
  subst hb
  rw [List.eq_of_mem_replicate hy]
  decide) (by simp)
 obtain ⟨κ,hκ,h0⟩:∃ κ:Int,(([z20].length:Nat):Int) * sumC marksFirm = κ∧0 < κ:=⟨_,rfl,by have:=sumC_marksP; simpa using this⟩
 rw [hκ] at hrun
 have k1:decide (κ > 0) = true:=decide_eq_true h0
 obtain ⟨y4,y5,y6,y7,y8,y9,y10,hrep⟩:=rep0
 have HR:=hide hrun
 have HREP:=hide hrep
 have HC:=hide hch
 clear hrun hrep hch hcA hcB hsl hb hrows hg hκ hz
 go_enter Tryz.func8,Tryz.ntmps8
 go_wp2_with fail
 go_at_call 9
 refine HR.out.mono ?_
 rintro e w3 ⟨u,rfl,hc,ho⟩
 clear HR hmk
 obtain ⟨rs,hown,hrl,hrs⟩:=ho.row
 obtain ⟨r,rfl⟩:∃ r,rs = [r]:=by
  match rs,hrl with
  | [r],_ => exact ⟨r,rfl⟩
 obtain ⟨hr,_⟩:=hrs 0 r _ rfl rfl
 have hsl:=Sl.own hown
 obtain ⟨A,cu,rfl,hcell⟩:=sl_open hsl
 obtain ⟨bb,off,rfl,hcell0,_⟩:=hcell 0 r rfl
 obtain ⟨A2,c2,rfl,_⟩:=id hr
 have hget:=get_ok (st0.next z20) (Xi.St.next_right st0_right z20) (Xi.flN_in z20) _ w3 trivial hr
 rw [HREP.out] at hget
 have HGT:=hide hget
 have HC3:=hide (HC.out.trans hc (by simp))
 clear hget hc ho hown hrl hrs hr hsl hcell HREP
 generalize (u8s _).length = nn at *
 simp only [List.length_cons,List.length_nil,Nat.zero_add,Nat.add_zero] at *
 go_wp2_with fail
 go_at_call 18
 refine HGT.out.mono ?_
 rintro e w4 ⟨rfl,hc4⟩
 have HC4:=hide (HC3.out.trans hc4 (by simp))
 have b9:=Blk.new w4 55 [.int .i64 1,.int .i64 1,.int .i64 1,.int .i64 0,.int .i32 y4,.int .i32 y5,.int .i32 y6,.int .i32 y7,.int .i32 y8,.int .i32 y9,.int .i32 y10]
 have z0:=b9.cell' (i:=0) rfl
 have z1:=b9.cell' (i:=1) rfl
 have z2:=b9.cell' (i:=2) rfl
 clear HGT hc4
 go_wp2_with fail
 go_ret
 exact ⟨rfl,HC4.out.alloc _⟩
end Go.Proofs.YtjcgiddgafjdpaaGreatDoor
