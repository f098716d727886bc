/- firm.Image. -/
import Derived.Test.YtnkmmaijigihpaaGreatDoorTT12
import Derived.Test.YtnkmmaijigihpaaGreatDoorRso
set_option linter.unusedVariables false
namespace Go.Proofs.YtnkmmaijigihpaaGreatDoor
open Go Go.RowKit Go.Deep Go.Maps Ab Xi
attribute [local go_sem] Oper.semAt_some
theorem aiS (vs:Array Value) (k:Nat):EM (.tuple vs) k = vs.getD k undef:=rfl
def gS:Nat->KS
 | 0 => TQ
 | j + 1 => (gS j).cell (20 + j)
theorem amb:∀ j,j < 7->(gS j).can 1 = true:=fun j hj => by
 rcases (by omega:j = 0\/j = 1\/j = 2\/j = 3\/j = 4\/j = 5\/j = 6) with rfl | rfl | rfl | rfl | rfl | rfl | rfl <;> kernel_rfl
theorem aiT:∀ j,j < 7->(gS j).used = 27 + j:=fun j hj => by
 rcases (by omega:j = 0\/j = 1\/j = 2\/j = 3\/j = 4\/j = 5\/j = 6) with rfl | rfl | rfl | rfl | rfl | rfl | rfl <;> kernel_rfl
def EN (j:Nat):List Value:=(List.range 7).map fun i => .int .i64 (if i < j then ((27 + i:Nat):Int) else 0)
theorem afq (j:Nat):(EN j).length = 7:=by simp [EN]
theorem afr:∀ j,j < 7->(EN j).set j (.int .i64 ((27 + j:Nat):Int)) = EN (j + 1):=fun j hj => by
 match j,hj with
 | 0,_ => rfl
 | 1,_ => rfl
 | 2,_ => rfl
 | 3,_ => rfl
 | 4,_ => rfl
 | 5,_ => rfl
 | 6,_ => rfl
theorem TY:∀ j,j < 7->(dw 7)[j]? = some (.int .i64 ((20 + j:Nat):Int)):=fun j hj => by
 match j,hj with
 | 0,_ => rfl
 | 1,_ => rfl
 | 2,_ => rfl
 | 3,_ => rfl
 | 4,_ => rfl
 | 5,_ => rfl
 | 6,_ => rfl
noncomputable def sS (b:MP):Nat->KS
 | 0 => xu b
 | j + 1 => (sS b j).set (20 + j) (yJ.getD j 0)
theorem aom (b:MP) (j:Nat) (hj:j < 7):(sS b j).nc<=799990:=by
 have h0:=Nat.le_of_ble_eq_true (al6 b)
 have e:∀ j,(sS b j).nc = (xu b).nc + 2 * j:=fun j => by
  induction j with
  | zero => rfl
  | succ j ih => show (sS b j).nc + 2 = _; rw [ih]; omega
 rw [e];omega
def isC:List Value:=yJ.map fun x:Nat => .int .i64 (x:Int)
theorem amc (j:Nat) (hj:j < 7):isC[j]? = some (.int .i64 ((yJ.getD j 0:Nat):Int)):=by
 match j,hj with
 | 0,_ => rfl
 | 1,_ => rfl
 | 2,_ => rfl
 | 3,_ => rfl
 | 4,_ => rfl
 | 5,_ => rfl
 | 6,_ => rfl
theorem acD (j:Nat) (hj:j < 7):yJ.getD j 0<=2048:=by
 match j,hj with
 | 0,_ => decide
 | 1,_ => decide
 | 2,_ => decide
 | 3,_ => decide
 | 4,_ => decide
 | 5,_ => decide
 | 6,_ => decide
def Bo (b:MP) (g c:Nat) (γ:Gh):Nat->Value
 | 0 => .pointer (some ⟨b.a,0,none⟩)
 | 1 => .agg #[.iface 79 (.pointer (some ⟨b.a,0,none⟩))]
 | 2 => .int .i64 0
 | 3 => .slice (some ⟨g,0,none⟩) 20 c
 | 4 => .agg #[.int .i64 27,.int .i64 28,.int .i64 29,.int .i64 30,.int .i64 31,.int .i64 32,.int .i64 33]
 | 5 => γ 5
 | 6 => γ 5
 | 7 => .agg #[.int .i64 502,.int .i64 505,.int .i64 508,.int .i64 511,.int .i64 514,.int .i64 520,.int .i64 517]
 | 8 => EM (γ 5) 1
 | 9 => γ 9
 | 10 => undef
 | 11 => EM (γ 5) 1
 | _ => undef
theorem amd (b:MP) (g c:Nat) (γ:Gh) (v:Value):∀ j,j∉([5,6,8,11]:List Nat)->Bo b g c (upd γ 5 v) j = Bo b g c γ j:=fun j hj => by
 match j,hj with
 | 0,_ => rfl
 | 1,_ => rfl
 | 2,_ => rfl
 | 3,_ => rfl
 | 4,_ => rfl
 | 5,hj => exact absurd (by decide) hj
 | 6,hj => exact absurd (by decide) hj
 | 7,_ => rfl
 | 8,hj => exact absurd (by decide) hj
 | 9,_ => rfl
 | 10,_ => rfl
 | 11,hj => exact absurd (by decide) hj
 | _ + 12,_ => rfl
theorem ame (b:MP) (g c:Nat) (γ:Gh) (v:Value):∀ j,j∉([9]:List Nat)->Bo b g c (upd γ 9 v) j = Bo b g c γ j:=fun j hj => by
 match j,hj with
 | 0,_ => rfl
 | 1,_ => rfl
 | 2,_ => rfl
 | 3,_ => rfl
 | 4,_ => rfl
 | 5,_ => rfl
 | 6,_ => rfl
 | 7,_ => rfl
 | 8,_ => rfl
 | 9,hj => exact absurd (by decide) hj
 | 10,_ => rfl
 | 11,_ => rfl
 | _ + 12,_ => rfl
theorem amf (v:Nat->Value) (t0 t1 t2 t3 t4 t5 t6 t7 t8 t9 t10 t11 t12 t13 t14 t15 t16 t17 t18 t19 t20 t21 t22 t23 t24 t25 t26 t27 t28 t29 t30 t31 t32 t33:Value):jH v (some 19 :: some 20 :: some 21 :: some 22 :: some 23 :: some 24 :: some 18 :: some 25 :: some 26 :: some 6 :: none :: some 7 :: []) 0 (t0 :: t1 :: t2 :: t3 :: t4 :: t5 :: t6 :: t7 :: t8 :: t9 :: t10 :: t11 :: t12 :: t13 :: t14 :: t15 :: t16 :: t17 :: t18 :: t19 :: t20 :: t21 :: t22 :: t23 :: t24 :: t25 :: t26 :: t27 :: t28 :: t29 :: t30 :: t31 :: t32 :: t33 :: []) = (t0 :: t1 :: t2 :: t3 :: t4 :: t5 :: v 9 :: v 11 :: t8 :: t9 :: t10 :: t11 :: t12 :: t13 :: t14 :: t15 :: t16 :: t17 :: v 6 :: v 0 :: v 1 :: v 2 :: v 3 :: v 4 :: v 5 :: v 7 :: v 8 :: t27 :: t28 :: t29 :: t30 :: t31 :: t32 :: t33 :: []):=by kernel_rfl
structure R6 (w5:World) (b:MP) (F:List Nat) (γ:Gh) (l5 l9 l10:Bool) (w':World):Prop where
 aj:ah w5 w' F
 kr:∃ F',Sub F' F w5/\KR w' b (bif l5 then xu b else Bg) F'/\(∀ a,l9 = true->γ 9 = .pointer (some ⟨a,0,none⟩)->a∉F')/\(l5 = true->∃ u,γ 5 = .tuple #[.agg #[.int .i64 502,.int .i64 505,.int .i64 508,.int .i64 511,.int .i64 514,.int .i64 520,.int .i64 517],u]/\Sl w' u (ints dL)/\∀ A n c,u = .slice (some A) n c->A.block∉F')
 nw:l9 = true->∃ a,γ 9 = .pointer (some ⟨a,0,none⟩)/\w5.heap.size<=a/\aA w' a 85 (bif l10 then isC else [.int .i64 0,.int .i64 0,.int .i64 0,.int .i64 0,.int .i64 0,.int .i64 0,.int .i64 0])
theorem R6.quiet {w5 w1 w2:World} {b:MP} {F:List Nat} {γ:Gh} {l5 l9 l10:Bool} (h:R6 w5 b F γ l5 l9 l10 w1) (hc:ah w1 w2 []):R6 w5 b F γ l5 l9 l10 w2 where
 aj:=h.aj.trans hc (by simp)
 kr:=by
  obtain ⟨F',h1,h2,h3,h4⟩:=h.kr
  exact ⟨F',h1,h2.aV hc,h3,fun hl => by
   obtain ⟨u,k1,k2,k3⟩:=h4 hl
   exact ⟨u,k1,k2.keep hc,k3⟩⟩
 nw:=fun hl => by
  obtain ⟨a,h1,h2,h3⟩:=h.nw hl;exact ⟨a,h1,h2,h3.aj hc (by simp)⟩
theorem R6.run {w5 w1 w2:World} {b:MP} {F F6 F':List Nat} {γ:Gh} {l9:Bool} {u:Value} (h:R6 w5 b F γ false l9 false w1) (hs:Sub F' F w5) (hn:∀ a,l9 = true->γ 9 = .pointer (some ⟨a,0,none⟩)->a∉F') (hc:ah w1 w2 F') (hs6:Sub F6 F' w1) (hk6:KR w2 b (xu b) F6) (hu:Sl w2 u (ints dL)) (hf:∀ A n c,u = .slice (some A) n c->A.block∉F6) :
 R6 w5 b F (upd γ 5 (.tuple #[.agg #[.int .i64 502,.int .i64 505,.int .i64 508,.int .i64 511,.int .i64 514,.int .i64 520,.int .i64 517],u])) true l9 false w2 where
 aj:=h.aj.trans hc hs
 kr:=⟨F6,fun k hk => by
  rcases hs6 k hk with e | e
  . exact hs k e
  . exact .inr (Nat.le_trans h.aj.size e),hk6,fun a hl ha hm => by
  rw [upd_ne _ _ (by decide)] at ha;rcases hs6 a hm with e | e
  . exact hn a hl ha e
  . obtain ⟨a',h1,_,h3⟩:=h.nw hl
    rw [ha] at h1;injection h1 with h1; injection h1 with h1; injection h1 with h1;have:=h3.lt
    omega,fun _ => ⟨u,mY _ _ _,hu,hf⟩⟩
 nw:=fun hl => by
  obtain ⟨a,h1,h2,h3⟩:=h.nw hl;exact ⟨a,by rw [upd_ne _ _ (by decide)]; exact h1,h2,h3.aj hc (hn a hl h1)⟩
theorem R6.new {w5 w1:World} {b:MP} {F:List Nat} {γ:Gh} {l5:Bool} (h:R6 w5 b F γ l5 false false w1):R6 w5 b F (upd γ 9 (.pointer (some ⟨w1.heap.size,0,none⟩))) l5 true false (w1.alloc (.cells #[.int .i64 0,.int .i64 0,.int .i64 0,.int .i64 0,.int .i64 0,.int .i64 0,.int .i64 0] 85)) where
 aj:=h.aj.alloc _
 kr:=by
  obtain ⟨F',h1,h2,_,h4⟩:=h.kr;refine ⟨F',h1,h2.aV ((ah.refl w1 []).alloc _),fun a _ ha hm => ?_,fun hl => ?_⟩
  . rw [mY] at ha
    injection ha with ha; injection ha with ha; injection ha with ha;have:=h2.lt a hm;omega
  . obtain ⟨u,k1,k2,k3⟩:=h4 hl
    exact ⟨u,by rw [upd_ne _ _ (by decide)]; exact k1,k2.keep ((ah.refl w1 []).alloc _),k3⟩
 nw:=fun _ => ⟨w1.heap.size,mY _ _ _,h.aj.size,aA.new w1 85 [.int .i64 0,.int .i64 0,.int .i64 0,.int .i64 0,.int .i64 0,.int .i64 0,.int .i64 0]⟩
theorem R6.put {w5 w1 w2:World} {b:MP} {F:List Nat} {γ:Gh} {a:Nat} (h:R6 w5 b F γ true true false w1) (hQ:11<=w5.heap.size) (ha:γ 9 = .pointer (some ⟨a,0,none⟩)) (hc:ah w1 w2 [a]) (hb:aA w2 a 85 isC):R6 w5 b F γ true true true w2:=by
 obtain ⟨a',h1,h2,h3⟩:=h.nw rfl;rw [ha] at h1;injection h1 with h1; injection h1 with h1; injection h1 with h1;subst h1;obtain ⟨F',k1,k2,k3,k4⟩:=h.kr;have hn:=k3 a rfl ha
 exact ⟨h.aj.trans hc (fun k hk => .inr (by simp at hk; omega)),⟨F',k1,k2.aj hc (fun k hk hm => hn (by simp at hm; exact hm ▸ hk)) (fun k hk => by simp at hk; omega),fun x _ hx => k3 x rfl hx,fun _ => by
  obtain ⟨u,h4,h5,h6⟩:=k4 rfl
  exact ⟨u,h4,h5.aV hc fun h0 => pX h3 h5 (fun u hu hm => by
   have e:u = .int .i64 0:=by
    have hu':u∈[Value.int .i64 0,.int .i64 0,.int .i64 0,.int .i64 0,.int .i64 0,.int .i64 0,.int .i64 0]:=hu
    simpa using hu'
   subst e;obtain ⟨n,hn,he⟩:=List.mem_map.1 hm;have hz:=List.all_eq_true.1 (show (dL.all fun n => Nat.blt 0 n) = true by decide +kernel) n hn;rw [aJ] at hz;injection he with _ he
   omega) h0,h6⟩⟩,fun _ => ⟨a,ha,h2,hb⟩⟩
set_option maxRecDepth 100000 in
set_option maxHeartbeats 4000000 in
theorem ZJ (w:World) (hg:jw w) :
 Calls Tryz.prog 16 #[] w fun e w' => ∃ v,e = .returned v/\ah w w' []/\uM w' v ((wordsOf aP 2921).map fun w:Nat => (w:Int)) bW iQ [0,1,2,3,4,5,6,7,8,9,10,11,12,13,14,15,16,17,18,19] dL/\R_ v [] w.heap.size:=by
 have dI:=hide (show Tryz.prog.follows .mixedOrders = true by kernel_rfl);have hn:=Y7 (w.alloc (.cells #[.slice none 0 0,.slice none 0 0,.slice none 0 0,.slice none 0 0,.slice none 0 0] 56)) (hg.aj ((ah.refl w []).alloc _) (by simp));have hq:=aA.new w 56 aeR;have HW:=hide hg;have hz0:(w.alloc (.cells #[.slice none 0 0,.slice none 0 0,.slice none 0 0,.slice none 0 0,.slice none 0 0] 56)).heap.size = w.heap.size + 1:=size_alloc _ _;clear hg;go_enter Tryz.func16,Tryz.ntmps16
 go_wp2_with fail
 go_at_call 34;refine hn.mono ?_;rintro e w1 ⟨b,F1,rfl,hc1,hk1,hf1⟩;have hca:ah w1 (w1.alloc (.cells #[.pointer (some ⟨b.a,0,none⟩)] 79)) []:=(ah.refl w1 []).alloc _;have hgv:=RS (hk1.aV hca) 20 (by decide) (by decide);have hQ2:=(hq.aj hc1 (by simp)).aj hca (by simp);have HKB:=hide (aA.new w1 79 [.pointer (some ⟨b.a,0,none⟩)]);have iM:=hide (show ∀ k∈F1,w.heap.size + 1<=k/\k < w1.heap.size from fun k hk => ⟨hz0 ▸ hf1 k hk,hk1.lt k hk⟩);have hcc:=(((ah.refl w []).alloc (.cells #[.slice none 0 0,.slice none 0 0,.slice none 0 0,.slice none 0 0,.slice none 0 0] 56)).trans hc1 (by simp)).trans hca (by simp);have HC2:=hide (show ah w (w1.alloc (.cells #[.pointer (some ⟨b.a,0,none⟩)] 79)) [] from hcc);have WL:=hide hQ2;have hzk:(w1.alloc (.cells #[.pointer (some ⟨b.a,0,none⟩)] 79)).heap.size = w1.heap.size + 1:=size_alloc _ _;have hql:w.heap.size < w1.heap.size:=(hq.aj hc1 (by simp)).lt;clear hn hq hc1 hk1 hf1 hca hQ2 hcc hz0;go_wp2_with fail
 go_at_call 35;refine hgv.mono ?_;rintro e w3 ⟨g,c,rfl,hc3,F2,hs2,hk2,hg1,hg2,hg3,hgc,hnc⟩;generalize hKK:w1.heap.size = KK at *;rw [hzk] at hg1
 have HF2:=hide (show ∀ k∈F2,w.heap.size < k/\k≠KK/\k < w3.heap.size from fun k hk => by
  refine ⟨?_,?_,hk2.lt k hk⟩
  . rcases hs2 k hk with h | h
    . have:=iM.out k h; omega
    . omega
  . rcases hs2 k hk with h | h
    . have:=iM.out k h; omega
    . omega)
 have hFK:KK∉F1:=fun hm => by have:=iM.out _ hm; omega
 have hFW:w.heap.size∉F1:=fun hm => by have:=iM.out _ hm; omega
 have HKB3:=hide (HKB.out.aj hc3 hFK);have HQ3:=hide (WL.out.aj hc3 hFW);have fU:Hid (ah w w3 []):=hide (HC2.out.trans hc3 (fun k hk => .inr (by have:=iM.out k hk; omega)));have amh:=hide (show Sl w3 (.slice (some ⟨g,0,none⟩) 20 c) (ints (lS 20 0)) from ⟨_,_,rfl,by simpa [ints,lS] using hnc,fun _ => ⟨g,0,rfl,fun j hj => by rw [Nat.zero_add,hgc j _ (List.getElem?_eq_getElem hj)]; exact (List.getElem?_eq_getElem hj).symm⟩⟩);have afs:=hide hg3;have aft:=hide (show KK < g/\g < w3.heap.size from ⟨by omega,hg2⟩);have hkp:=VL (Nat.le_trans HW.out.size (by have:=fU.out.size; exact this)) hk2;rw [show dw 7 = [.int .i64 20,.int .i64 21,.int .i64 22,.int .i64 23,.int .i64 24,.int .i64 25,.int .i64 26] from rfl] at hkp;have y0:=HKB3.out.cell' (i:=0) rfl;clear hgv hc3 hs2 hk2 hg1 hg2 hg3 hgc hnc hFK hFW iM HKB WL HC2 hzk;go_wp2_with fail
 go_at_call 36;refine hkp.mono ?_;rintro e w4 ⟨rfl,hc4,F4,hs4,hk4⟩;have jm:=(aA.new w4 85 [.int .i64 20,.int .i64 21,.int .i64 22,.int .i64 23,.int .i64 24,.int .i64 25,.int .i64 26]).alloc (.cells #[.int .i64 0,.int .i64 0,.int .i64 0,.int .i64 0,.int .i64 0,.int .i64 0,.int .i64 0] 85);have Ws:=aA.new (w4.alloc (.cells #[.int .i64 20,.int .i64 21,.int .i64 22,.int .i64 23,.int .i64 24,.int .i64 25,.int .i64 26] 85)) 85 [.int .i64 0,.int .i64 0,.int .i64 0,.int .i64 0,.int .i64 0,.int .i64 0,.int .i64 0];have hz4:(w4.alloc (.cells #[.int .i64 20,.int .i64 21,.int .i64 22,.int .i64 23,.int .i64 24,.int .i64 25,.int .i64 26] 85)).heap.size = w4.heap.size + 1:=size_alloc _ _;rw [hz4] at Ws;have hcV:ah w4 ((w4.alloc (.cells #[.int .i64 20,.int .i64 21,.int .i64 22,.int .i64 23,.int .i64 24,.int .i64 25,.int .i64 26] 85)).alloc (.cells #[.int .i64 0,.int .i64 0,.int .i64 0,.int .i64 0,.int .i64 0,.int .i64 0,.int .i64 0] 85)) []:=((ah.refl w4 []).alloc _).alloc _;have hkV:=hk4.aV hcV;have hzV:((w4.alloc (.cells #[.int .i64 20,.int .i64 21,.int .i64 22,.int .i64 23,.int .i64 24,.int .i64 25,.int .i64 26] 85)).alloc (.cells #[.int .i64 0,.int .i64 0,.int .i64 0,.int .i64 0,.int .i64 0,.int .i64 0,.int .i64 0] 85)).heap.size = w4.heap.size + 2:=by rw [size_alloc,hz4]
 have Hl:=hide (show ∀ k∈F4,w.heap.size < k/\k≠KK/\k≠g/\k < w4.heap.size from fun k hk => by
  have h0:=hk4.lt k hk;rcases hs4 k hk with h | h
  . have:=HF2.out k h
    exact ⟨by omega,by omega,fun e => afs.out (e ▸ h),h0⟩
  . have:=aft.out
    have:=HKB3.out.lt;have:=HQ3.out.lt
    exact ⟨by omega,by omega,by omega,h0⟩)
 have ami:KK∉F2:=fun hm => by have:=HF2.out _ hm; omega
 have amj:w.heap.size∉F2:=fun hm => by have:=HF2.out _ hm; omega
 have afu:=hide ((HKB3.out.aj hc4 ami).aj hcV (by simp));have HQV:=hide ((HQ3.out.aj hc4 amj).aj hcV (by simp));have amk:=hide ((amh.out.aj hc4 (fun A n c h => by injection h with h1 h2 h3; injection h1 with h1; subst h1; exact afs.out)).keep hcV);have aml:=(fU.out.trans hc4 (fun k hk => .inr (by have:=HF2.out k hk; omega))).trans hcV (by simp);have HCV:Hid (ah w ((w4.alloc (.cells #[.int .i64 20,.int .i64 21,.int .i64 22,.int .i64 23,.int .i64 24,.int .i64 25,.int .i64 26] 85)).alloc (.cells #[.int .i64 0,.int .i64 0,.int .i64 0,.int .i64 0,.int .i64 0,.int .i64 0,.int .i64 0] 85)) []):=hide aml;have I9:=hide (show KK < w4.heap.size/\g < w4.heap.size/\w.heap.size < w4.heap.size from by have:=hc4.size; have:=aft.out; omega);clear hkp hc4 hs4 hk4 hz4 hcV ami amj aml y0 HKB3 HQ3 amh fU HF2 afs aft;generalize hP4:w4.heap.size = P4 at *;generalize hV4:(w4.alloc (.cells #[.int .i64 20,.int .i64 21,.int .i64 22,.int .i64 23,.int .i64 24,.int .i64 25,.int .i64 26] 85)).alloc (.cells #[.int .i64 0,.int .i64 0,.int .i64 0,.int .i64 0,.int .i64 0,.int .i64 0,.int .i64 0] 85) = V4 at *;have Dx:=hide jm;have HZV:=hide hzV
 have hdo:∀ j,j < 7->∀ v,(ah V4 v ((P4 + 1) :: F4)/\(∃ F',Sub F' F4 V4/\KR v b (gS j) F')/\aA v (P4 + 1) 85 (EN j))->Calls Tryz.prog 38 #[.pointer (some ⟨P4 + 1,j,none⟩),.pointer (some ⟨P4,j,none⟩),.pointer (some ⟨KK,0,none⟩)] v fun e w' => (∃ x,e = .returned x)/\ah V4 w' ((P4 + 1) :: F4)/\(∃ F',Sub F' F4 V4/\KR w' b (gS (j + 1)) F')/\aA w' (P4 + 1) 85 (EN (j + 1)):=fun j hj v ⟨h1,⟨F',h2,h3⟩,h4⟩ => by
  have vS:∀ k,k < P4 + 2->k∉F4->k∉F':=fun k hk hn hm => by
   rcases h2 k hm with h | h
   . exact hn h
   . have:=HZV.out; omega
  have n4:P4∉F4:=fun hm => by have:=Hl.out _ hm; omega
  have n5:P4 + 1∉F4:=fun hm => by have:=Hl.out _ hm; omega
  have nk:KK∉F4:=fun hm => by have:=Hl.out _ hm; omega
  have nkl:=I9.out;have hb4:aA v P4 85 (dw 7):=Dx.out.aj h1 (by simp; exact n4);have hbk:=afu.out.aj h1 (by simp; exact ⟨by omega,nk⟩);have:=TU h3 (P4 + 1) P4 KK j (20 + j) (EN j) (dw 7) h4 hb4 hbk (vS _ (by omega) n5) (vS _ (by omega) n4) (vS _ (by omega) nk) (by omega) (by omega) (by have:=HW.out.size; omega) hj (afq j) (TY j hj) (by omega) (amb j hj);rw [aiT j hj,afr j hj] at this;refine this.mono ?_;rintro e w' ⟨hx,hc,⟨F'',hs,hk⟩,hb⟩;refine ⟨hx,h1.trans hc (fun k hk => ?_),⟨F'',fun k hk => ?_,hk⟩,hb⟩
  . rcases List.mem_cons.1 hk with rfl | hk
    . exact .inl (by simp)
    . rcases h2 k hk with h | h
      . exact .inl (by simp [h])
      . exact .inr h
  . rcases hs k hk with h | h
    . exact h2 k h
    . exact .inr (Nat.le_trans h1.size h)
 have he:=VN (w:=V4) (P4 + 1) P4 KK (fun j v => ah V4 v ((P4 + 1) :: F4)/\(∃ F',Sub F' F4 V4/\KR v b (gS j) F')/\aA v (P4 + 1) 85 (EN j)) (fun j v v' ⟨h1,⟨F',h2,h3⟩,h4⟩ hc => ⟨h1.trans hc (by simp),⟨F',h2,h3.aV hc⟩,h4.aj hc (by simp)⟩) hdo ⟨ah.refl _ _,⟨F4,Sub.refl _ _,hkV⟩,Ws⟩;have HE:=hide he;clear hdo he hkV jm Ws hzV;go_wp2_with fail
 go_at_call 37
 try rw [hV4]
 clear hV4;refine HE.out.mono ?_;rintro e W5 ⟨⟨x5,rfl⟩,hc5,⟨F5,hs5,hk5⟩,hb5⟩;clear HE;have hk5:KR W5 b Bg F5:=hk5
 have zG:=hide (show ∀ k∈F5,w.heap.size < k/\k≠KK/\k≠g/\k≠P4/\k≠P4 + 1/\k < W5.heap.size from fun k hk => by
  have h0:=hk5.lt k hk;have:=I9.out;rcases hs5 k hk with h | h
  . have:=Hl.out k h
    omega
  . have:=HZV.out
    omega)
 have n4:P4∉(P4 + 1) :: F4:=by simp; exact fun hm => by have:=Hl.out _ hm; omega
 have nk:KK∉(P4 + 1) :: F4:=by simp; exact ⟨by have:=I9.out; omega,fun hm => by have:=Hl.out _ hm; omega⟩
 have nw:w.heap.size∉(P4 + 1) :: F4:=by simp; exact ⟨by have:=I9.out; omega,fun hm => by have:=Hl.out _ hm; omega⟩
 have ng:g∉(P4 + 1) :: F4:=by simp; exact ⟨by have:=I9.out; omega,fun hm => by have:=Hl.out _ hm; omega⟩
 have Dx:=hide (Dx.out.aj hc5 n4);have HKB:=hide (afu.out.aj hc5 nk);have HQB:=hide (HQV.out.aj hc5 nw);have HGS:=hide (amk.out.aj hc5 (fun A n c h => by injection h with h1 h2 h3; injection h1 with h1; subst h1; exact ng))
 have gK:Hid (ah w W5 []):=hide (HCV.out.trans hc5 (fun k hk => .inr (by
  have:=I9.out;rcases List.mem_cons.1 hk with rfl | hk
  . omega
  . have:=Hl.out k hk; omega)))
 have HKC:=hide (HKB.out.cell' (i:=0) rfl);have HKF:=hide (show KK∉F5 from fun hm => by have:=zG.out _ hm; omega);have aon:=hide (hb5.cell' (i:=0) rfl);have aoo:=hide (hb5.cell' (i:=1) rfl);have aop:=hide (hb5.cell' (i:=2) rfl);have aoq:=hide (hb5.cell' (i:=3) rfl);have aor:=hide (hb5.cell' (i:=4) rfl);have aos:=hide (hb5.cell' (i:=5) rfl);have aot:=hide (hb5.cell' (i:=6) rfl);have I_:=hide (show P4 + 1∉F5 from fun hm => by have:=zG.out _ hm; omega);have HGF:=hide (show g∉F5 from fun hm => by have:=zG.out _ hm; omega);have J4:=hide (show g < W5.heap.size from by have:=I9.out; have:=hc5.size; have:=HZV.out; omega);have HQ5:=hide (show 11<=W5.heap.size from Nat.le_trans HW.out.size gK.out.size);have yE:=hide hk5;clear hc5 hs5 hk5 hb5 n4 nk nw ng afu HQV amk HCV Hl;generalize hP5:P4 + 1 = P5 at *;go_upto_region 6 with (fail)
 refine gV dI.out _ _ (fun γ => Bo b g c γ) (fun (γ:Gh) L w' => R6 W5 b F5 γ (L 5) (L 9) (L 10) w') (fun _ => undef) (by kernel_rfl) [] (by kernel_rfl) (fun p hp γ => by simp at hp) (by kernel_rfl) ?step ?start ?fin ?ext
 case start => exact ⟨(ah.refl W5 F5).drew,⟨F5,Sub.refl _ _,yE.out.aV ((ah.refl W5 []).drew),(fun a h => by cases h),(fun h => by cases h)⟩,(fun h => by cases h)⟩
 case ext =>
  intro γ L L' w' h hw;have hw':R6 W5 b F5 γ (L 5) (L 9) (L 10) w':=hw;rw [h 5 (by decide),h 9 (by decide),h 10 (by decide)] at hw';exact hw'
 case step =>
  intro i o ho L av w1 γ hdn ak hW hL hpre K' Q' hK
  match i,ho with
  | 0,ho =>
   injection ho with ho; subst ho;have b1:av.tmps.getD 1 undef = .pointer (some ⟨KK,0,none⟩):=dH ak 1 (by kernel_rfl);clear ak;have y:=hW.aj.cell HKC.out HKF.out;refine au ?_ (hK γ w1 (fun _ _ => rfl) hW); go_simp; rfl
  | 1,ho =>
   injection ho with ho; subst ho;have s0:=aF ak 19 0 (by kernel_rfl) (hpre ⟨0,.data⟩ (by simp) rfl);simp only [Bo] at s0;clear ak;refine dK (f:=41) (args:=#[.pointer (some ⟨b.a,0,none⟩)]) ?_ (Zf b.a w1) ?_
   . go_simp
   . rintro e w2 ⟨rfl,hc⟩
     exact ⟨_,rfl,hK γ w2 (fun _ _ => rfl) (R6.quiet hW hc)⟩
  | 2,ho =>
   injection ho with ho; subst ho;have b2:av.tmps.getD 2 undef = .int .i64 0:=dH ak 2 (by kernel_rfl);clear ak;refine au ?_ (hK γ w1 (fun _ _ => rfl) hW); go_simp; rfl
  | 3,ho =>
   injection ho with ho; subst ho;have b3:av.tmps.getD 3 undef = .slice (some ⟨g,0,none⟩) 20 c:=dH ak 3 (by kernel_rfl);clear ak;refine au ?_ (hK γ w1 (fun _ _ => rfl) hW); go_simp; rfl
  | 4,ho =>
   injection ho with ho; subst ho;have b5:av.tmps.getD 5 undef = .pointer (some ⟨P5,0,none⟩):=dH ak 5 (by kernel_rfl);clear ak;have y0:=hW.aj.cell aon.out I_.out;have y1:=hW.aj.cell aoo.out I_.out;have y2:=hW.aj.cell aop.out I_.out;have y3:=hW.aj.cell aoq.out I_.out;have y4:=hW.aj.cell aor.out I_.out;have y5:=hW.aj.cell aos.out I_.out;have y6:=hW.aj.cell aot.out I_.out;refine au ?_ (hK γ w1 (fun _ _ => rfl) hW); go_simp; rfl
  | 5,ho =>
   injection ho with ho; subst ho;have s1:=aF ak 20 1 (by kernel_rfl) (hpre ⟨1,.data⟩ (by simp) rfl);have s2:=aF ak 21 2 (by kernel_rfl) (hpre ⟨2,.data⟩ (by simp) rfl);have s3:=aF ak 22 3 (by kernel_rfl) (hpre ⟨3,.data⟩ (by simp) rfl);have s4:=aF ak 23 4 (by kernel_rfl) (hpre ⟨4,.data⟩ (by simp) rfl);simp only [Bo] at s1 s2 s3 s4;clear ak
   have n10:L 10 = false:=by
    cases h:L 10 with
    | false => rfl
    | true => have hx:L 5 = true:=hdn 10 _ rfl h ⟨5,.chain⟩ (by simp) rfl; rw [hL] at hx; cases hx
   have Xq:R6 W5 b F5 γ false (L 9) false w1:=by
    have h:R6 W5 b F5 γ (L 5) (L 9) (L 10) w1:=hW;rw [hL,n10] at h;exact h
   obtain ⟨F',hs',hk',hn',_⟩:=Xq.kr;have hk':KR w1 b Bg F':=hk'
   have hgF:g∉F':=fun hm => by
    rcases hs' g hm with h | h
    . exact HGF.out h
    . have:=J4.out; omega
   have aqk:Sl w1 (.slice (some ⟨g,0,none⟩) 20 c) (ints (lS 20 0)):=HGS.out.aj hW.aj (fun A n c h => by injection h with h1 h2 h3; injection h1 with h1; subst h1; exact HGF.out)
   refine dK (f:=40) (args:=#[.agg #[.iface 79 (.pointer (some ⟨b.a,0,none⟩))],.int .i64 0,.slice (some ⟨g,0,none⟩) 20 c,.agg #[.int .i64 27,.int .i64 28,.int .i64 29,.int .i64 30,.int .i64 31,.int .i64 32,.int .i64 33]]) ?_ (acp w1 hk' [.slice (some ⟨g,0,none⟩) 20 c] (fun i cs hi => by
    match i,hi with
    | 0,hi => injection hi with hi; subst hi; exact ⟨_,rfl,aqk⟩
    | _ + 1,hi => cases hi) (fun v hv k hk => by simp at hv; subst hv; injection hk with hk; subst hk; exact hgF) (fun v hv => by simp at hv; subst hv; rfl) (vals:=[.agg #[.iface 79 (.pointer (some ⟨b.a,0,none⟩))],.int .i64 0,.slice (some ⟨g,0,none⟩) 20 c,.agg #[.int .i64 27,.int .i64 28,.int .i64 29,.int .i64 30,.int .i64 31,.int .i64 32,.int .i64 33]]) rfl) ?_
   . go_simp
   . rintro e w2 ⟨us,F6,rfl,hc,hs6,hk6,hau⟩
     match us,hau with
     | [x,y],hau =>
      obtain ⟨rfl,⟨hy,hyf⟩,_⟩:=hau;exact ⟨_,rfl,hK (upd γ 5 (.tuple #[.agg #[.int .i64 502,.int .i64 505,.int .i64 508,.int .i64 511,.int .i64 514,.int .i64 520,.int .i64 517],y])) w2 (uo hdn [5,6,8,11] (by kernel_rfl) hL (amd b g c γ _)) (show R6 W5 b F5 _ true (L 9) (L 10) w2 from by rw [n10]; exact R6.run Xq hs' hn' hc hs6 hk6 hy hyf)⟩
  | 6,ho =>
   injection ho with ho; subst ho;have s5:=aF ak 24 5 (by kernel_rfl) (hpre ⟨5,.data⟩ (by simp) rfl);simp only [Bo] at s5;clear ak;refine au ?_ (hK γ w1 (fun _ _ => rfl) hW); go_simp; rfl
  | 7,ho =>
   injection ho with ho; subst ho;have s6:=aF ak 18 6 (by kernel_rfl) (hpre ⟨6,.data⟩ (by simp) rfl);simp only [Bo] at s6;clear ak;have l5:L 5 = true:=hdn 6 _ rfl (hpre ⟨6,.data⟩ (by simp) rfl) ⟨5,.data⟩ (by simp) rfl
   have Xq:R6 W5 b F5 γ true (L 9) (L 10) w1:=by
    have h:R6 W5 b F5 γ (L 5) (L 9) (L 10) w1:=hW;rw [l5] at h;exact h
   obtain ⟨_,_,_,_,hout⟩:=Xq.kr;obtain ⟨u,hu,_⟩:=hout rfl;rw [hu] at s6;refine au ?_ (hK γ w1 (fun _ _ => rfl) hW); go_simp; rfl
  | 8,ho =>
   injection ho with ho; subst ho;have s6:=aF ak 18 6 (by kernel_rfl) (hpre ⟨6,.data⟩ (by simp) rfl);simp only [Bo] at s6;clear ak;have l5:L 5 = true:=hdn 6 _ rfl (hpre ⟨6,.data⟩ (by simp) rfl) ⟨5,.data⟩ (by simp) rfl
   have Xq:R6 W5 b F5 γ true (L 9) (L 10) w1:=by
    have h:R6 W5 b F5 γ (L 5) (L 9) (L 10) w1:=hW;rw [l5] at h;exact h
   obtain ⟨_,_,_,_,hout⟩:=Xq.kr;obtain ⟨u,hu,_⟩:=hout rfl;rw [hu] at s6;refine au (v:=EM (γ 5) 1) ?_ (hK γ w1 (fun _ _ => rfl) hW); rw [hu]; go_simp; first | done | rfl
  | 9,ho =>
   injection ho with ho; subst ho;clear ak
   have n10:L 10 = false:=by
    cases h:L 10 with
    | false => rfl
    | true => have hx:L 9 = true:=hdn 10 _ rfl h ⟨9,.data⟩ (by simp) rfl; rw [hL] at hx; cases hx
   have hW9:R6 W5 b F5 γ (L 5) false false w1:=by
    have h:R6 W5 b F5 γ (L 5) (L 9) (L 10) w1:=hW;rw [hL,n10] at h;exact h
   refine au (v:=.pointer (some ⟨w1.heap.size,0,none⟩)) (w':=w1.alloc (.cells #[.int .i64 0,.int .i64 0,.int .i64 0,.int .i64 0,.int .i64 0,.int .i64 0,.int .i64 0] 85)) ?_ (hK (upd γ 9 (.pointer (some ⟨w1.heap.size,0,none⟩))) _ (uo hdn [9] (by kernel_rfl) hL (ame b g c γ _)) (show R6 W5 b F5 _ (L 5) true (L 10) _ from by rw [n10]; exact R6.new hW9));go_simp
  | 10,ho =>
   injection ho with ho; subst ho;have l9:=hpre ⟨9,.data⟩ (by simp) rfl;have s9:=aF ak 6 9 (by kernel_rfl) l9;have s7:=aF ak 25 7 (by kernel_rfl) (hpre ⟨7,.data⟩ (by simp) rfl);simp only [Bo] at s9 s7;clear ak;have l5:L 5 = true:=hpre ⟨5,.chain⟩ (by simp) rfl;have l9:L 9 = true:=hpre ⟨9,.data⟩ (by simp) rfl
   have amn:R6 W5 b F5 γ true true false w1:=by
    have h:R6 W5 b F5 γ (L 5) (L 9) (L 10) w1:=hW;rw [l5,l9,hL] at h;exact h
   obtain ⟨a,ha,haz,hb⟩:=amn.nw rfl;have hb:aA w1 a 85 [.int .i64 0,.int .i64 0,.int .i64 0,.int .i64 0,.int .i64 0,.int .i64 0,.int .i64 0]:=hb;have f0:=hb.frozen 0;have z0:=hb.cell' (i:=0) rfl;have f1:=hb.frozen 1;have z1:=hb.cell' (i:=1) rfl;have f2:=hb.frozen 2;have z2:=hb.cell' (i:=2) rfl;have f3:=hb.frozen 3;have z3:=hb.cell' (i:=3) rfl;have f4:=hb.frozen 4;have z4:=hb.cell' (i:=4) rfl;have f5:=hb.frozen 5;have z5:=hb.cell' (i:=5) rfl;have f6:=hb.frozen 6;have z6:=hb.cell' (i:=6) rfl;have hbl:=hb.lt;rw [ha] at s9;refine qC (w':=(((((((w1.setCell ⟨a,0,none⟩ (.int .i64 502)).setCell ⟨a,1,none⟩ (.int .i64 505)).setCell ⟨a,2,none⟩ (.int .i64 508)).setCell ⟨a,3,none⟩ (.int .i64 511)).setCell ⟨a,4,none⟩ (.int .i64 514)).setCell ⟨a,5,none⟩ (.int .i64 520)).setCell ⟨a,6,none⟩ (.int .i64 517))) ?_ (hK γ _ (fun _ _ => rfl) (show R6 W5 b F5 γ (L 5) (L 9) true _ from by rw [l5,l9]; exact R6.put amn HQ5.out ha ((((((((ah.refl w1 [a]).setCell ⟨a,0,none⟩ (.int .i64 502) (.inl (List.mem_singleton.2 rfl))).setCell ⟨a,1,none⟩ (.int .i64 505) (.inl (List.mem_singleton.2 rfl))).setCell ⟨a,2,none⟩ (.int .i64 508) (.inl (List.mem_singleton.2 rfl))).setCell ⟨a,3,none⟩ (.int .i64 511) (.inl (List.mem_singleton.2 rfl))).setCell ⟨a,4,none⟩ (.int .i64 514) (.inl (List.mem_singleton.2 rfl))).setCell ⟨a,5,none⟩ (.int .i64 520) (.inl (List.mem_singleton.2 rfl))).setCell ⟨a,6,none⟩ (.int .i64 517) (.inl (List.mem_singleton.2 rfl))) (((((((hb.aK 0 (.int .i64 502)).aK 1 (.int .i64 505)).aK 2 (.int .i64 508)).aK 3 (.int .i64 511)).aK 4 (.int .i64 514)).aK 5 (.int .i64 520)).aK 6 (.int .i64 517))));go_simp
  | 11,ho =>
   injection ho with ho; subst ho;have s8:=aF ak 26 8 (by kernel_rfl) (hpre ⟨8,.data⟩ (by simp) rfl);simp only [Bo] at s8;clear ak;refine au (v:=EM (γ 5) 1) ?_ (hK γ w1 (fun _ _ => rfl) hW); go_simp; first | done | rfl
  | _ + 12,ho => cases ho
 case fin =>
 intro γ w6 hW;have hW:R6 W5 b F5 γ true true true w6:=hW;obtain ⟨F6,hs6,hk6,hn6,Xr⟩:=hW.kr;obtain ⟨u,hu,hsl,hsf⟩:=Xr rfl;obtain ⟨A6,ha,hA6,hb6⟩:=hW.nw rfl;have hb6:aA w6 A6 85 isC:=hb6;have hk6:KR w6 b (xu b) F6:=hk6;have amo:=hn6 A6 rfl ha;have hc6:=hW.aj
 have HF6:=hide (show ∀ k∈F6,w.heap.size < k/\k≠KK/\k≠P4/\k≠A6/\k < w6.heap.size from fun k hk => by
  have h0:=hk6.lt k hk;have h9:k≠A6:=fun e => amo (e ▸ hk);rcases hs6 k hk with h | h
  . have:=zG.out k h
    omega
  . have:=HKB.out.lt
    have:=Dx.out.lt;have:=HQB.out.lt
    omega)
 have n4:P4∉F5:=fun hm => by have:=zG.out _ hm; omega
 have nk:KK∉F5:=fun hm => by have:=zG.out _ hm; omega
 have nw:w.heap.size∉F5:=fun hm => by have:=zG.out _ hm; omega
 have aql:=hide (Dx.out.aj hc6 n4);have afv:=hide (HKB.out.aj hc6 nk);have amq:=hide (HQB.out.aj hc6 nw);have wo:=hide hb6;have Sm:=hide hsl;have aqm:=hide hsf;have vY:Hid (ah w w6 []):=hide (gK.out.trans hc6 (fun k hk => .inr (by have:=zG.out k hk; omega)))
 have hdo:∀ j,j < 7->∀ v,(ah w6 v F6/\∃ F',Sub F' F6 w6/\KR v b (sS b j) F')->Calls Tryz.prog 42 #[.pointer (some ⟨P4,j,none⟩),.pointer (some ⟨A6,j,none⟩),.pointer (some ⟨KK,0,none⟩)] v fun e w' => (∃ x,e = .returned x)/\ah w6 w' F6/\∃ F',Sub F' F6 w6/\KR w' b (sS b (j + 1)) F':=fun j hj v ⟨h1,F',h2,h3⟩ => by
  have n4:P4∉F6:=fun hm => by have:=HF6.out _ hm; omega
  have na:A6∉F6:=fun hm => by have:=HF6.out _ hm; omega
  have nk:KK∉F6:=fun hm => by have:=HF6.out _ hm; omega
  have hb4:aA v P4 85 (dw 7):=aql.out.aj h1 n4;refine (TV h3 P4 A6 KK j (20 + j) (yJ.getD j 0) (dw 7) isC hb4 (wo.out.aj h1 na) (afv.out.aj h1 nk) (TY j hj) (amc j hj) (by omega) (acD j hj) (aom b j hj)).mono ?_;rintro e w' ⟨hx,hc,F'',hs,hk⟩;refine ⟨hx,h1.trans hc h2,F'',fun k hk => ?_,hk⟩;rcases hs k hk with h | h
  . exact h2 k h
  . exact .inr (Nat.le_trans h1.size h)
 have he:=VO (w:=w6) P4 A6 KK (fun j v => ah w6 v F6/\∃ F',Sub F' F6 w6/\KR v b (sS b j) F') (fun j v v' ⟨h1,F',h2,h3⟩ hc => ⟨h1.trans hc (by simp),F',h2,h3.aV hc⟩) hdo ⟨ah.refl _ _,F6,Sub.refl _ _,hk6⟩;have HE:=hide he;clear hdo he hk6 hs6 hn6 Xr hA6 hb6 hsl hsf amo hc6 n4 nk nw hW;rw [fK,dM,eP];simp only [List.map_cons,List.map_nil];rw [amf];simp only [Bo];rw [ha,hu];simp only [aiS];clear ha hu;go_wp2_with fail
 go_at_call 37;refine HE.out.mono ?_;rintro e w7 ⟨⟨x7,rfl⟩,hc7,F7,hs7,WG⟩;clear HE;have WG:KR w7 b (Kq b) F7:=WG
 have Xt:=hide (show ∀ k∈F7,w.heap.size < k/\k≠KK/\k < w7.heap.size from fun k hk => by
  have h0:=WG.lt k hk;rcases hs7 k hk with h | h
  . have:=HF6.out k h
    omega
  . have:=afv.out.lt
    have:=amq.out.lt
    omega)
 have nk:KK∉F6:=fun hm => by have:=HF6.out _ hm; omega
 have nw:w.heap.size∉F6:=fun hm => by have:=HF6.out _ hm; omega
 have amr:=hide (afv.out.aj hc7 nk);have ams:=hide (amq.out.aj hc7 nw);have LZ:=Sm.out.aj hc7 aqm.out;have T_:Hid (ah w w7 []):=hide (vY.out.trans hc7 (fun k hk => .inr (by have:=HF6.out k hk; omega)));obtain ⟨A,cu,rfl,_⟩:=id LZ;have QH:=fun (j:Nat) (u:Value) (hj:(ints dL)[j]? = some u) => LZ.at_ hj;obtain ⟨bu,ou,rfl,_⟩:=QH 0 (.int .i64 ((dL.getD 0 0:Nat):Int)) rfl
 have han:=RQ WG dL ⟨bu,ou,none⟩ cu (by decide) (fun j v hj => by
  rw [add_plain];obtain ⟨b',o',h1,h2,_⟩:=QH j v hj;injection h1 with h1; injection h1 with h1 h3;subst h1 h3
  exact h2) (Nat.le_of_ble_eq_true (al7 b))
 have HAN:=hide han;have y7:=amr.out.cell' (i:=0) rfl;rw [show (ints dL).length = dL.length by simp [ints]];clear WG hs7 hc7 nk nw LZ QH han;go_wp2_with fail
 go_at_call 44;refine HAN.out.mono ?_;rintro e w8 ⟨rfl,hc8,F8,hs8,hk8⟩;clear HAN y7
 have HF8:=hide (show ∀ k∈F8,w.heap.size + 1<=k from fun k hk => by
  rcases hs8 k hk with h | h
  . have:=Xt.out k h
    omega
  . have:=ams.out.lt
    omega)
 have nk:KK∉F7:=fun hm => by have:=Xt.out _ hm; omega
 have nw:w.heap.size∉F7:=fun hm => by have:=Xt.out _ hm; omega
 have y8:=(amr.out.aj hc8 nk).cell' (i:=0) rfl;have ig:=hide (T_.out.trans hc8 (fun k hk => .inr (by have:=Xt.out k hk; omega)));have HQ5:=hide (ams.out.aj hc8 nw);have zG:=HF8;have hk3:KR w8 b (lY b) F8:=hk8;have hfi:=LY hk3 (al4 b) (Nat.le_of_ble_eq_true (al5 b)) (aiJ b);rw [aiK,afh,aiL,afi] at hfi;clear hc8 hs8 hk8 hk3 nk nw;go_wp2_with fail
 go_at_call 45;refine hfi.mono ?_;rintro e w6 ⟨v,rfl,hc6,him,hfr⟩
 have hfr:R_ v [] w.heap.size:=fun c d se i o e u hu A m k hA => by
  have hz8:=ig.out.size;rcases hfr c d se i o e u hu A m k hA with h | h
  . have:=zG.out _ h
    exact .inr (by omega)
  . exact .inr (by omega)
 have Ot:=hide hfr;clear hfr;obtain ⟨vc,vd,vs,vi,vo,rfl,h1,h2,h3,h4,h5⟩:=id him;obtain ⟨a1,c1,rfl,_⟩:=id h1;obtain ⟨a2,c2,rfl,_⟩:=id h2;obtain ⟨a3,c3,rfl,_⟩:=id h3;obtain ⟨a4,c4,rfl,_⟩:=id h4;obtain ⟨a5,c5,rfl,_⟩:=id h5;have amu:w.heap.size∉F8:=fun hm => by have:=zG.out _ hm; omega
 have hb6:=HQ5.out.aj hc6 amu;clear y8;have v0:=hb6.cell' (i:=0) rfl;have v1:=hb6.cell' (i:=1) rfl;have v2:=hb6.cell' (i:=2) rfl;have v3:=hb6.cell' (i:=3) rfl;have v4:=hb6.cell' (i:=4) rfl;have k0:=hb6.frozen 0;have k1:=hb6.frozen 1;have k2:=hb6.frozen 2;have k3:=hb6.frozen 3;have k4:=hb6.frozen 4;have hbl:=hb6.lt;have wo:=hide hb6;have Ou:=hide him;have vY:Hid (ah w w6 []):=hide (ig.out.trans hc6 (fun k hk => .inr (by have:=zG.out k hk; omega)));clear hfi hc6 him h1 h2 h3 h4 h5 amu hb6;go_wp2;have hfb:=((((wo.out.aK 0 (.slice a1 (iP ((wordsOf aP 2921).map fun w:Nat => (w:Int))).length c1)).aK 1 (.slice a2 (bF bW).length c2)).aK 2 (.slice a3 (bools iQ).length c3)).aK 3 (.slice a4 (ints [0,1,2,3,4,5,6,7,8,9,10,11,12,13,14,15,16,17,18,19]).length c4)).aK 4 (.slice a5 (ints dL).length c5);have hcf:ah w6 (((((w6.setCell ⟨w.heap.size,0,none⟩ (.slice a1 (iP ((wordsOf aP 2921).map fun w:Nat => (w:Int))).length c1)).setCell ⟨w.heap.size,1,none⟩ (.slice a2 (bF bW).length c2)).setCell ⟨w.heap.size,2,none⟩ (.slice a3 (bools iQ).length c3)).setCell ⟨w.heap.size,3,none⟩ (.slice a4 (ints [0,1,2,3,4,5,6,7,8,9,10,11,12,13,14,15,16,17,18,19]).length c4)).setCell ⟨w.heap.size,4,none⟩ (.slice a5 (ints dL).length c5)) [w.heap.size]:=((((((ah.refl w6 [w.heap.size]).setCell _ _ (.inl (List.mem_singleton.2 rfl))).setCell _ _ (.inl (List.mem_singleton.2 rfl))).setCell _ _ (.inl (List.mem_singleton.2 rfl))).setCell _ _ (.inl (List.mem_singleton.2 rfl))).setCell _ _ (.inl (List.mem_singleton.2 rfl)))
 refine bodyPost_ret (v:=.agg #[.slice a1 (iP ((wordsOf aP 2921).map fun w:Nat => (w:Int))).length c1,.slice a2 (bF bW).length c2,.slice a3 (bools iQ).length c3,.slice a4 (ints [0,1,2,3,4,5,6,7,8,9,10,11,12,13,14,15,16,17,18,19]).length c4,.slice a5 (ints dL).length c5]) (results_cell_row rfl _ _ w.heap.size 56 _ (0,0) _ rfl hfb Tryz.underlying56 rfl (by kernel_rfl)) rfl ⟨_,rfl,vY.out.trans hcf (fun k hk => .inr (by simp at hk; omega)),Ou.out.far wo.out hcf,Ot.out⟩
end Go.Proofs.YtnkmmaijigihpaaGreatDoor
