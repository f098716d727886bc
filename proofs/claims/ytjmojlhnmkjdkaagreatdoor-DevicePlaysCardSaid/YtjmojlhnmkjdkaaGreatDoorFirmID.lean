/- firm.Image. -/
import Derived.Test.YtjmojlhnmkjdkaaGreatDoorDP12
import Derived.Test.YtjmojlhnmkjdkaaGreatDoorRsoD
set_option linter.unusedVariables false
namespace Go.Proofs.YtjmojlhnmkjdkaaGreatDoor
open Go Go.RowKit Go.Deep Go.Maps Ab Xi
attribute [local go_sem] Oper.semAt_some
theorem ank(vs:Array Value)(k:Nat):rZ (.tuple vs) k=vs.getD k undef:=rfl
def gS:Nat->KS
 | 0=>WO
 | j+1=>(gS j).cell (20+j)
theorem aqR:∀ j,j<7->(gS j).can 1=true:=fun j hj=>by
 rcases (by omega:j=0\/j=1\/j=2\/j=3\/j=4\/j=5\/j=6) with rfl | rfl | rfl | rfl | rfl | rfl | rfl<;>kernel_rfl
theorem anl:∀ j,j<7->(gS j).used=27+j:=fun j hj=>by
 rcases (by omega:j=0\/j=1\/j=2\/j=3\/j=4\/j=5\/j=6) with rfl | rfl | rfl | rfl | rfl | rfl | rfl<;>kernel_rfl
def Ip(j:Nat):List Value:=(List.range 7).map fun i=>.int .i64 (if i<j then((27+i:Nat):Int) else 0)
theorem ai9(j:Nat):(Ip j).length=7:=by simp [Ip]
theorem ai_:∀ j,j<7->(Ip j).set j (.int .i64 ((27+j:Nat):Int))=Ip (j+1):=fun j hj=>by
 match j,hj with
 | 0,_=>rfl
 | 1,_=>rfl
 | 2,_=>rfl
 | 3,_=>rfl
 | 4,_=>rfl
 | 5,_=>rfl
 | 6,_=>rfl
theorem WW:∀ j,j<7->(dJ 7)[j]?=some (.int .i64 ((20+j:Nat):Int)):=fun j hj=>by
 match j,hj with
 | 0,_=>rfl
 | 1,_=>rfl
 | 2,_=>rfl
 | 3,_=>rfl
 | 4,_=>rfl
 | 5,_=>rfl
 | 6,_=>rfl
noncomputable def sS (b:MP):Nat->KS
 | 0=>zD b
 | j+1=>(sS b j).set (20+j) (A8.getD j 0)
theorem aue(b:MP)(j:Nat)(hj:j<7):(sS b j).nc<=799990:=by
 have h0:=Nat.le_of_ble_eq_true (aqK b)
 have e:∀ j,(sS b j).nc=(zD b).nc+2*j:=fun j=>by
  induction j with
  | zero=>rfl
  | succ j ih=>show(sS b j).nc+2=_; rw [ih]; omega
 rw [e];omega
def isC:List Value:=A8.map fun x:Nat=>.int .i64 (x:Int)
theorem aqS(j:Nat)(hj:j<7):isC[j]?=some (.int .i64 ((A8.getD j 0:Nat):Int)):=by
 match j,hj with
 | 0,_=>rfl
 | 1,_=>rfl
 | 2,_=>rfl
 | 3,_=>rfl
 | 4,_=>rfl
 | 5,_=>rfl
 | 6,_=>rfl
theorem af5(j:Nat)(hj:j<7):A8.getD j 0<=2048:=by
 match j,hj with
 | 0,_=>decide
 | 1,_=>decide
 | 2,_=>decide
 | 3,_=>decide
 | 4,_=>decide
 | 5,_=>decide
 | 6,_=>decide
def Ea (b:MP) (g c:Nat) (γ:Gh):Nat->Value
 | 0=>.pointer (some ⟨b.a,0,none⟩)
 | 1=>.agg #[.iface 96 (.pointer (some ⟨b.a,0,none⟩))]
 | 2=>.int .i64 0
 | 3=>.slice (some ⟨g,0,none⟩) 20 c
 | 4=>.agg #[.int .i64 27,.int .i64 28,.int .i64 29,.int .i64 30,.int .i64 31,.int .i64 32,.int .i64 33]
 | 5=>γ 5
 | 6=>γ 5
 | 7=>.agg #[.int .i64 502,.int .i64 505,.int .i64 508,.int .i64 511,.int .i64 514,.int .i64 520,.int .i64 517]
 | 8=>rZ (γ 5) 1
 | 9=>γ 9
 | 10=>undef
 | 11=>rZ (γ 5) 1
 | _=>undef
theorem aqT(b:MP)(g c:Nat)(γ:Gh)(v:Value):∀ j,j∉([5,6,8,11]:List Nat)->Ea b g c (upd γ 5 v) j=Ea b g c γ j:=fun j hj=>by
 match j,hj with
 | 0,_=>rfl
 | 1,_=>rfl
 | 2,_=>rfl
 | 3,_=>rfl
 | 4,_=>rfl
 | 5,hj=>exact absurd (by decide) hj
 | 6,hj=>exact absurd (by decide) hj
 | 7,_=>rfl
 | 8,hj=>exact absurd (by decide) hj
 | 9,_=>rfl
 | 10,_=>rfl
 | 11,hj=>exact absurd (by decide) hj
 | _+12,_=>rfl
theorem aqU(b:MP)(g c:Nat)(γ:Gh)(v:Value):∀ j,j∉([9]:List Nat)->Ea b g c (upd γ 9 v) j=Ea b g c γ j:=fun j hj=>by
 match j,hj with
 | 0,_=>rfl
 | 1,_=>rfl
 | 2,_=>rfl
 | 3,_=>rfl
 | 4,_=>rfl
 | 5,_=>rfl
 | 6,_=>rfl
 | 7,_=>rfl
 | 8,_=>rfl
 | 9,hj=>exact absurd (by decide) hj
 | 10,_=>rfl
 | 11,_=>rfl
 | _+12,_=>rfl
theorem aqV(v:Nat->Value)(t0 t1 t2 t3 t4 t5 t6 t7 t8 t9 t10 t11 t12 t13 t14 t15 t16 t17 t18 t19 t20 t21 t22 t23 t24 t25 t26 t27 t28 t29 t30 t31 t32 t33:Value):oK v (some 19::some 20::some 21::some 22::some 23::some 24::some 18::some 25::some 26::some 6::none::some 7::[]) 0 (t0::t1::t2::t3::t4::t5::t6::t7::t8::t9::t10::t11::t12::t13::t14::t15::t16::t17::t18::t19::t20::t21::t22::t23::t24::t25::t26::t27::t28::t29::t30::t31::t32::t33::[])=(t0::t1::t2::t3::t4::t5::v 9::v 11::t8::t9::t10::t11::t12::t13::t14::t15::t16::t17::v 6::v 0::v 1::v 2::v 3::v 4::v 5::v 7::v 8::t27::t28::t29::t30::t31::t32::t33::[]):=by kernel_rfl
structure R6 (w5:World) (b:MP) (F:List Nat) (γ:Gh) (l5 l9 l10:Bool) (w':World):Prop where
 aj:ah w5 w' F
 kr:∃ F',Sub F' F w5/\KR w' b (bif l5 then zD b else D7) F'/\(∀ a,l9=true->γ 9=.pointer (some ⟨a,0,none⟩)->a∉F')/\(l5=true->∃ u,γ 5=.tuple #[.agg #[.int .i64 502,.int .i64 505,.int .i64 508,.int .i64 511,.int .i64 514,.int .i64 520,.int .i64 517],u]/\Sl w' u (ints dZ)/\∀ A n c,u=.slice (some A) n c->A.block∉F')
 nw:l9=true->∃ a,γ 9=.pointer (some ⟨a,0,none⟩)/\w5.heap.size<=a/\aC w' a 102 (bif l10 then isC else [.int .i64 0,.int .i64 0,.int .i64 0,.int .i64 0,.int .i64 0,.int .i64 0,.int .i64 0])
theorem R6.quiet {w5 w1 w2:World} {b:MP} {F:List Nat} {γ:Gh} {l5 l9 l10:Bool} (h:R6 w5 b F γ l5 l9 l10 w1) (hc:ah w1 w2 []):R6 w5 b F γ l5 l9 l10 w2 where
 aj:=h.aj.trans hc (by simp)
 kr:=by
  obtain⟨F',h1,h2,h3,h4⟩:=h.kr
  exact ⟨F',h1,h2.bJ hc,h3,fun hl => by
   obtain⟨u,k1,k2,k3⟩:=h4 hl
   exact⟨u,k1,k2.keep hc,k3⟩⟩
 nw:=fun hl=>by
  obtain⟨a,h1,h2,h3⟩:=h.nw hl;exact⟨a,h1,h2,h3.aj hc (by simp)⟩
theorem R6.run{w5 w1 w2:World}{b:MP}{F F6 F':List Nat}{γ:Gh}{l9:Bool}{u:Value}(h:R6 w5 b F γ false l9 false w1)(hs:Sub F' F w5)(hn:∀ a,l9=true->γ 9=.pointer (some ⟨a,0,none⟩)->a∉F')(hc:ah w1 w2 F')(hs6:Sub F6 F' w1)(hk6:KR w2 b (zD b) F6)(hu:Sl w2 u (ints dZ))(hf:∀ A n c,u=.slice (some A) n c->A.block∉F6) :
 R6 w5 b F (upd γ 5 (.tuple #[.agg #[.int .i64 502,.int .i64 505,.int .i64 508,.int .i64 511,.int .i64 514,.int .i64 520,.int .i64 517],u])) true l9 false w2 where
 aj:=h.aj.trans hc hs
 kr:=⟨F6,fun k hk=>by
  rcases hs6 k hk with e | e
  . exact hs k e
  . exact .inr (Nat.le_trans h.aj.size e),hk6,fun a hl ha hm=>by
  rw [upd_ne _ _ (by decide)] at ha;rcases hs6 a hm with e | e
  . exact hn a hl ha e
  . obtain⟨a',h1,_,h3⟩:=h.nw hl
    rw [ha] at h1;injection h1 with h1; injection h1 with h1; injection h1 with h1;have:=h3.lt
    omega,fun _=>⟨u,mX _ _ _,hu,hf⟩⟩
 nw:=fun hl=>by
  obtain⟨a,h1,h2,h3⟩:=h.nw hl;exact⟨a,by rw [upd_ne _ _ (by decide)]; exact h1,h2,h3.aj hc (hn a hl h1)⟩
theorem R6.new {w5 w1:World} {b:MP} {F:List Nat} {γ:Gh} {l5:Bool} (h:R6 w5 b F γ l5 false false w1):R6 w5 b F (upd γ 9 (.pointer (some ⟨w1.heap.size,0,none⟩))) l5 true false (w1.alloc (.cells #[.int .i64 0,.int .i64 0,.int .i64 0,.int .i64 0,.int .i64 0,.int .i64 0,.int .i64 0] 102)) where
 aj:=h.aj.alloc _
 kr:=by
  obtain⟨F',h1,h2,_,h4⟩:=h.kr;refine⟨F',h1,h2.bJ ((ah.refl w1 []).alloc _),fun a _ ha hm=>?_,fun hl=>?_⟩
  . rw [mX] at ha
    injection ha with ha; injection ha with ha; injection ha with ha;have:=h2.lt a hm;omega
  . obtain⟨u,k1,k2,k3⟩:=h4 hl
    exact⟨u,by rw [upd_ne _ _ (by decide)]; exact k1,k2.keep ((ah.refl w1 []).alloc _),k3⟩
 nw:=fun _=>⟨w1.heap.size,mX _ _ _,h.aj.size,aC.new w1 102 [.int .i64 0,.int .i64 0,.int .i64 0,.int .i64 0,.int .i64 0,.int .i64 0,.int .i64 0]⟩
theorem R6.put{w5 w1 w2:World}{b:MP}{F:List Nat}{γ:Gh}{a:Nat}(h:R6 w5 b F γ true true false w1)(hQ:11<=w5.heap.size)(ha:γ 9=.pointer (some ⟨a,0,none⟩))(hc:ah w1 w2 [a])(hb:aC w2 a 102 isC):R6 w5 b F γ true true true w2:=by
 obtain⟨a',h1,h2,h3⟩:=h.nw rfl;rw [ha] at h1;injection h1 with h1; injection h1 with h1; injection h1 with h1;subst h1;obtain⟨F',k1,k2,k3,k4⟩:=h.kr;have hn:=k3 a rfl ha
 exact ⟨h.aj.trans hc (fun k hk => .inr (by simp at hk; omega)),⟨F',k1,k2.aj hc (fun k hk hm => hn (by simp at hm; exact hm ▸ hk)) (fun k hk => by simp at hk; omega),fun x _ hx => k3 x rfl hx,fun _ => by
  obtain⟨u,h4,h5,h6⟩:=k4 rfl
  exact ⟨u,h4,h5.bJ hc fun h0 => sN h3 h5 (fun u hu hm => by
   have e:u=.int .i64 0:=by
    have hu':u∈[Value.int .i64 0,.int .i64 0,.int .i64 0,.int .i64 0,.int .i64 0,.int .i64 0,.int .i64 0]:=hu
    simpa using hu'
   subst e;obtain⟨n,hn,he⟩:=List.mem_map.1 hm;have hz:=List.all_eq_true.1 (show(dZ.all fun n=>Nat.blt 0 n)=true by decide +kernel) n hn;rw [aI] at hz;injection he with _ he
   omega) h0,h6⟩⟩,fun _=>⟨a,ha,h2,hb⟩⟩
set_option maxRecDepth 100000 in
set_option maxHeartbeats 4000000 in
theorem acM (w:World) (hg:oh w) :
 Calls Tryz.prog 22 #[] w fun e w'=>∃ v,e=.returned v/\ah w w' []/\w_ w' v ((wordsOf aY 2921).map fun w:Nat=>(w:Int)) dA kR [0,1,2,3,4,5,6,7,8,9,10,11,12,13,14,15,16,17,18,19] dZ/\VA v [] w.heap.size:=by
 have fG:=hide (show Tryz.prog.follows .mixedOrders=true by kernel_rfl);have hn:=ab5 (w.alloc (.cells #[.slice none 0 0,.slice none 0 0,.slice none 0 0,.slice none 0 0,.slice none 0 0] 66)) (hg.aj ((ah.refl w []).alloc _) (by simp));have hq:=aC.new w 66 aiE;have HW:=hide hg;have hz0:(w.alloc (.cells #[.slice none 0 0,.slice none 0 0,.slice none 0 0,.slice none 0 0,.slice none 0 0] 66)).heap.size=w.heap.size+1:=size_alloc _ _;clear hg;go_enter Tryz.func22,Tryz.ntmps22
 go_wp2_with fail
 go_at_call 48;refine hn.mono ?_;rintro e w1 ⟨b,F1,rfl,hc1,hk1,hf1⟩;have hca:ah w1 (w1.alloc (.cells #[.pointer (some ⟨b.a,0,none⟩)] 96)) []:=(ah.refl w1 []).alloc _;have hgv:=Vt (hk1.bJ hca) 20 (by decide) (by decide);have hQ2:=(hq.aj hc1 (by simp)).aj hca (by simp);have HKB:=hide (aC.new w1 96 [.pointer (some ⟨b.a,0,none⟩)]);have jR:=hide (show ∀ k∈F1,w.heap.size+1<=k/\k<w1.heap.size from fun k hk=>⟨hz0▸hf1 k hk,hk1.lt k hk⟩);have hcc:=(((ah.refl w []).alloc (.cells #[.slice none 0 0,.slice none 0 0,.slice none 0 0,.slice none 0 0,.slice none 0 0] 66)).trans hc1 (by simp)).trans hca (by simp);have HC2:=hide (show ah w (w1.alloc (.cells #[.pointer (some ⟨b.a,0,none⟩)] 96)) [] from hcc);have ZL:=hide hQ2;have hzk:(w1.alloc (.cells #[.pointer (some ⟨b.a,0,none⟩)] 96)).heap.size=w1.heap.size+1:=size_alloc _ _;have hql:w.heap.size<w1.heap.size:=(hq.aj hc1 (by simp)).lt;clear hn hq hc1 hk1 hf1 hca hQ2 hcc hz0;go_wp2_with fail
 go_at_call 49;refine hgv.mono ?_;rintro e w3 ⟨g,c,rfl,hc3,F2,hs2,hk2,hg1,hg2,hg3,hgc,hnc⟩;generalize hKK:w1.heap.size=KK at *;rw [hzk] at hg1
 have HF2:=hide (show ∀ k∈F2,w.heap.size<k/\k≠KK/\k<w3.heap.size from fun k hk=>by
  refine⟨?_,?_,hk2.lt k hk⟩
  . rcases hs2 k hk with h | h
    . have:=jR.out k h; omega
    . omega
  . rcases hs2 k hk with h | h
    . have:=jR.out k h; omega
    . omega)
 have hFK:KK∉F1:=fun hm=>by have:=jR.out _ hm; omega
 have hFW:w.heap.size∉F1:=fun hm=>by have:=jR.out _ hm; omega
 have HKB3:=hide (HKB.out.aj hc3 hFK);have HQ3:=hide (ZL.out.aj hc3 hFW);have jC:Hid (ah w w3 []):=hide (HC2.out.trans hc3 (fun k hk=>.inr (by have:=jR.out k hk; omega)));have aqW:=hide (show Sl w3 (.slice (some ⟨g,0,none⟩) 20 c) (ints (nJ 20 0)) from⟨_,_,rfl,by simpa [ints,nJ] using hnc,fun _=>⟨g,0,rfl,fun j hj=>by rw [Nat.zero_add,hgc j _ (List.getElem?_eq_getElem hj)]; exact(List.getElem?_eq_getElem hj).symm⟩⟩);have aja:=hide hg3;have ajb:=hide (show KK<g/\g<w3.heap.size from⟨by omega,hg2⟩);have hkp:=Y4 (Nat.le_trans HW.out.size (by have:=jC.out.size; exact this)) hk2;rw [show dJ 7=[.int .i64 20,.int .i64 21,.int .i64 22,.int .i64 23,.int .i64 24,.int .i64 25,.int .i64 26] from rfl] at hkp;have y0:=HKB3.out.cell' (i:=0) rfl;clear hgv hc3 hs2 hk2 hg1 hg2 hg3 hgc hnc hFK hFW jR HKB ZL HC2 hzk;go_wp2_with fail
 go_at_call 50;refine hkp.mono ?_;rintro e w4 ⟨rfl,hc4,F4,hs4,hk4⟩;have jW:=(aC.new w4 102 [.int .i64 20,.int .i64 21,.int .i64 22,.int .i64 23,.int .i64 24,.int .i64 25,.int .i64 26]).alloc (.cells #[.int .i64 0,.int .i64 0,.int .i64 0,.int .i64 0,.int .i64 0,.int .i64 0,.int .i64 0] 102);have ZA:=aC.new (w4.alloc (.cells #[.int .i64 20,.int .i64 21,.int .i64 22,.int .i64 23,.int .i64 24,.int .i64 25,.int .i64 26] 102)) 102 [.int .i64 0,.int .i64 0,.int .i64 0,.int .i64 0,.int .i64 0,.int .i64 0,.int .i64 0];have hz4:(w4.alloc (.cells #[.int .i64 20,.int .i64 21,.int .i64 22,.int .i64 23,.int .i64 24,.int .i64 25,.int .i64 26] 102)).heap.size=w4.heap.size+1:=size_alloc _ _;rw [hz4] at ZA;have hcV:ah w4 ((w4.alloc (.cells #[.int .i64 20,.int .i64 21,.int .i64 22,.int .i64 23,.int .i64 24,.int .i64 25,.int .i64 26] 102)).alloc (.cells #[.int .i64 0,.int .i64 0,.int .i64 0,.int .i64 0,.int .i64 0,.int .i64 0,.int .i64 0] 102)) []:=((ah.refl w4 []).alloc _).alloc _;have hkV:=hk4.bJ hcV;have hzV:((w4.alloc (.cells #[.int .i64 20,.int .i64 21,.int .i64 22,.int .i64 23,.int .i64 24,.int .i64 25,.int .i64 26] 102)).alloc (.cells #[.int .i64 0,.int .i64 0,.int .i64 0,.int .i64 0,.int .i64 0,.int .i64 0,.int .i64 0] 102)).heap.size=w4.heap.size+2:=by rw [size_alloc,hz4]
 have Kt:=hide (show ∀ k∈F4,w.heap.size<k/\k≠KK/\k≠g/\k<w4.heap.size from fun k hk=>by
  have h0:=hk4.lt k hk;rcases hs4 k hk with h | h
  . have:=HF2.out k h
    exact⟨by omega,by omega,fun e=>aja.out (e▸h),h0⟩
  . have:=ajb.out
    have:=HKB3.out.lt;have:=HQ3.out.lt
    exact⟨by omega,by omega,by omega,h0⟩)
 have aqX:KK∉F2:=fun hm=>by have:=HF2.out _ hm; omega
 have aqY:w.heap.size∉F2:=fun hm=>by have:=HF2.out _ hm; omega
 have ajc:=hide ((HKB3.out.aj hc4 aqX).aj hcV (by simp));have HQV:=hide ((HQ3.out.aj hc4 aqY).aj hcV (by simp));have aqZ:=hide ((aqW.out.aj hc4 (fun A n c h=>by injection h with h1 h2 h3; injection h1 with h1; subst h1; exact aja.out)).keep hcV);have aq0:=(jC.out.trans hc4 (fun k hk=>.inr (by have:=HF2.out k hk; omega))).trans hcV (by simp);have HCV:Hid (ah w ((w4.alloc (.cells #[.int .i64 20,.int .i64 21,.int .i64 22,.int .i64 23,.int .i64 24,.int .i64 25,.int .i64 26] 102)).alloc (.cells #[.int .i64 0,.int .i64 0,.int .i64 0,.int .i64 0,.int .i64 0,.int .i64 0,.int .i64 0] 102)) []):=hide aq0;have L6:=hide (show KK<w4.heap.size/\g<w4.heap.size/\w.heap.size<w4.heap.size from by have:=hc4.size; have:=ajb.out; omega);clear hkp hc4 hs4 hk4 hz4 hcV aqX aqY aq0 y0 HKB3 HQ3 aqW jC HF2 aja ajb;generalize hP4:w4.heap.size=P4 at *;generalize hV4:(w4.alloc (.cells #[.int .i64 20,.int .i64 21,.int .i64 22,.int .i64 23,.int .i64 24,.int .i64 25,.int .i64 26] 102)).alloc (.cells #[.int .i64 0,.int .i64 0,.int .i64 0,.int .i64 0,.int .i64 0,.int .i64 0,.int .i64 0] 102)=V4 at *;have Gl:=hide jW;have HZV:=hide hzV
 have hdo:∀ j,j<7->∀ v,(ah V4 v ((P4+1)::F4)/\(∃ F',Sub F' F4 V4/\KR v b (gS j) F')/\aC v (P4+1) 102 (Ip j))->Calls Tryz.prog 52 #[.pointer (some ⟨P4+1,j,none⟩),.pointer (some ⟨P4,j,none⟩),.pointer (some ⟨KK,0,none⟩)] v fun e w'=>(∃ x,e=.returned x)/\ah V4 w' ((P4+1)::F4)/\(∃ F',Sub F' F4 V4/\KR w' b (gS (j+1)) F')/\aC w' (P4+1) 102 (Ip (j+1)):=fun j hj v ⟨h1,⟨F',h2,h3⟩,h4⟩=>by
  have yF:∀ k,k<P4+2->k∉F4->k∉F':=fun k hk hn hm=>by
   rcases h2 k hm with h | h
   . exact hn h
   . have:=HZV.out; omega
  have n4:P4∉F4:=fun hm=>by have:=Kt.out _ hm; omega
  have n5:P4+1∉F4:=fun hm=>by have:=Kt.out _ hm; omega
  have nk:KK∉F4:=fun hm=>by have:=Kt.out _ hm; omega
  have nkl:=L6.out;have hb4:aC v P4 102 (dJ 7):=Gl.out.aj h1 (by simp; exact n4);have hbk:=ajc.out.aj h1 (by simp; exact⟨by omega,nk⟩);have:=WU h3 (P4+1) P4 KK j (20+j) (Ip j) (dJ 7) h4 hb4 hbk (yF _ (by omega) n5) (yF _ (by omega) n4) (yF _ (by omega) nk) (by omega) (by omega) (by have:=HW.out.size; omega) hj (ai9 j) (WW j hj) (by omega) (aqR j hj);rw [anl j hj,ai_ j hj] at this;refine this.mono ?_;rintro e w' ⟨hx,hc,⟨F'',hs,hk⟩,hb⟩;refine⟨hx,h1.trans hc (fun k hk=>?_),⟨F'',fun k hk=>?_,hk⟩,hb⟩
  . rcases List.mem_cons.1 hk with rfl | hk
    . exact .inl (by simp)
    . rcases h2 k hk with h | h
      . exact .inl (by simp [h])
      . exact .inr h
  . rcases hs k hk with h | h
    . exact h2 k h
    . exact .inr (Nat.le_trans h1.size h)
 have he:=Y5 (w:=V4) (P4+1) P4 KK (fun j v=>ah V4 v ((P4+1)::F4)/\(∃ F',Sub F' F4 V4/\KR v b (gS j) F')/\aC v (P4+1) 102 (Ip j)) (fun j v v' ⟨h1,⟨F',h2,h3⟩,h4⟩ hc=>⟨h1.trans hc (by simp),⟨F',h2,h3.bJ hc⟩,h4.aj hc (by simp)⟩) hdo ⟨ah.refl _ _,⟨F4,Sub.refl _ _,hkV⟩,ZA⟩;have HE:=hide he;clear hdo he hkV jW ZA hzV;go_wp2_with fail
 go_at_call 51
 try rw [hV4]
 clear hV4;refine HE.out.mono ?_;rintro e W5 ⟨⟨x5,rfl⟩,hc5,⟨F5,hs5,hk5⟩,hb5⟩;clear HE;have hk5:KR W5 b D7 F5:=hk5
 have Ce:=hide (show ∀ k∈F5,w.heap.size<k/\k≠KK/\k≠g/\k≠P4/\k≠P4+1/\k<W5.heap.size from fun k hk=>by
  have h0:=hk5.lt k hk;have:=L6.out;rcases hs5 k hk with h | h
  . have:=Kt.out k h
    omega
  . have:=HZV.out
    omega)
 have n4:P4∉(P4+1)::F4:=by simp; exact fun hm=>by have:=Kt.out _ hm; omega
 have nk:KK∉(P4+1)::F4:=by simp; exact⟨by have:=L6.out; omega,fun hm=>by have:=Kt.out _ hm; omega⟩
 have nw:w.heap.size∉(P4+1)::F4:=by simp; exact⟨by have:=L6.out; omega,fun hm=>by have:=Kt.out _ hm; omega⟩
 have ng:g∉(P4+1)::F4:=by simp; exact⟨by have:=L6.out; omega,fun hm=>by have:=Kt.out _ hm; omega⟩
 have Gl:=hide (Gl.out.aj hc5 n4);have HKB:=hide (ajc.out.aj hc5 nk);have HQB:=hide (HQV.out.aj hc5 nw);have HGS:=hide (aqZ.out.aj hc5 (fun A n c h=>by injection h with h1 h2 h3; injection h1 with h1; subst h1; exact ng))
 have jD:Hid (ah w W5 []):=hide (HCV.out.trans hc5 (fun k hk=>.inr (by
  have:=L6.out;rcases List.mem_cons.1 hk with rfl | hk
  . omega
  . have:=Kt.out k hk; omega)))
 have HKC:=hide (HKB.out.cell' (i:=0) rfl);have HKF:=hide (show KK∉F5 from fun hm=>by have:=Ce.out _ hm; omega);have auf:=hide (hb5.cell' (i:=0) rfl);have aug:=hide (hb5.cell' (i:=1) rfl);have auh:=hide (hb5.cell' (i:=2) rfl);have aui:=hide (hb5.cell' (i:=3) rfl);have auj:=hide (hb5.cell' (i:=4) rfl);have auk:=hide (hb5.cell' (i:=5) rfl);have aul:=hide (hb5.cell' (i:=6) rfl);have L8:=hide (show P4+1∉F5 from fun hm=>by have:=Ce.out _ hm; omega);have Wp:=hide (show g∉F5 from fun hm=>by have:=Ce.out _ hm; omega);have N9:=hide (show g<W5.heap.size from by have:=L6.out; have:=hc5.size; have:=HZV.out; omega);have HQ5:=hide (show 11<=W5.heap.size from Nat.le_trans HW.out.size jD.out.size);have AO:=hide hk5;clear hc5 hs5 hk5 hb5 n4 nk nw ng ajc HQV aqZ HCV Kt;generalize hP5:P4+1=P5 at *;go_upto_region 6 with(fail)
 refine iC fG.out _ _ (fun γ=>Ea b g c γ) (fun(γ:Gh) L w'=>R6 W5 b F5 γ (L 5) (L 9) (L 10) w') (fun _=>undef) (by kernel_rfl) [] (by kernel_rfl) (fun p hp γ=>by simp at hp) (by kernel_rfl) ?step ?start ?fin ?ext
 case start=>exact⟨(ah.refl W5 F5).drew,⟨F5,Sub.refl _ _,AO.out.bJ ((ah.refl W5 []).drew),(fun a h=>by cases h),(fun h=>by cases h)⟩,(fun h=>by cases h)⟩
 case ext =>
  intro γ L L' w' h hw;have hw':R6 W5 b F5 γ (L 5) (L 9) (L 10) w':=hw;rw [h 5 (by decide),h 9 (by decide),h 10 (by decide)] at hw';exact hw'
 case step =>
  intro i o ho L av w1 γ hdn ak hW hL hpre K' Q' hK
  match i,ho with
  | 0,ho =>
   injection ho with ho; subst ho;have b1:av.tmps.getD 1 undef=.pointer (some ⟨KK,0,none⟩):=fM ak 1 (by kernel_rfl);clear ak;have y:=hW.aj.cell HKC.out HKF.out;refine au ?_ (hK γ w1 (fun _ _=>rfl) hW); go_simp; rfl
  | 1,ho =>
   injection ho with ho; subst ho;have s0:=aJ ak 19 0 (by kernel_rfl) (hpre ⟨0,.data⟩ (by simp) rfl);simp only [Ea] at s0;clear ak;refine gU (f:=55) (args:=#[.pointer (some ⟨b.a,0,none⟩)]) ?_ (acg b.a w1) ?_
   . go_simp
   . rintro e w2 ⟨rfl,hc⟩
     exact⟨_,rfl,hK γ w2 (fun _ _=>rfl) (R6.quiet hW hc)⟩
  | 2,ho =>
   injection ho with ho; subst ho;have b2:av.tmps.getD 2 undef=.int .i64 0:=fM ak 2 (by kernel_rfl);clear ak;refine au ?_ (hK γ w1 (fun _ _=>rfl) hW); go_simp; rfl
  | 3,ho =>
   injection ho with ho; subst ho;have b3:av.tmps.getD 3 undef=.slice (some ⟨g,0,none⟩) 20 c:=fM ak 3 (by kernel_rfl);clear ak;refine au ?_ (hK γ w1 (fun _ _=>rfl) hW); go_simp; rfl
  | 4,ho =>
   injection ho with ho; subst ho;have b5:av.tmps.getD 5 undef=.pointer (some ⟨P5,0,none⟩):=fM ak 5 (by kernel_rfl);clear ak;have y0:=hW.aj.cell auf.out L8.out;have y1:=hW.aj.cell aug.out L8.out;have y2:=hW.aj.cell auh.out L8.out;have y3:=hW.aj.cell aui.out L8.out;have y4:=hW.aj.cell auj.out L8.out;have y5:=hW.aj.cell auk.out L8.out;have y6:=hW.aj.cell aul.out L8.out;refine au ?_ (hK γ w1 (fun _ _=>rfl) hW); go_simp; rfl
  | 5,ho =>
   injection ho with ho; subst ho;have s1:=aJ ak 20 1 (by kernel_rfl) (hpre ⟨1,.data⟩ (by simp) rfl);have s2:=aJ ak 21 2 (by kernel_rfl) (hpre ⟨2,.data⟩ (by simp) rfl);have s3:=aJ ak 22 3 (by kernel_rfl) (hpre ⟨3,.data⟩ (by simp) rfl);have s4:=aJ ak 23 4 (by kernel_rfl) (hpre ⟨4,.data⟩ (by simp) rfl);simp only [Ea] at s1 s2 s3 s4;clear ak
   have n10:L 10=false:=by
    cases h:L 10 with
    | false=>rfl
    | true=>have hx:L 5=true:=hdn 10 _ rfl h ⟨5,.chain⟩ (by simp) rfl; rw [hL] at hx; cases hx
   have hW5:R6 W5 b F5 γ false (L 9) false w1:=by
    have h:R6 W5 b F5 γ (L 5) (L 9) (L 10) w1:=hW;rw [hL,n10] at h;exact h
   obtain⟨F',hs',hk',hn',_⟩:=hW5.kr;have hk':KR w1 b D7 F':=hk'
   have hgF:g∉F':=fun hm=>by
    rcases hs' g hm with h | h
    . exact Wp.out h
    . have:=N9.out; omega
   have axe:Sl w1 (.slice (some ⟨g,0,none⟩) 20 c) (ints (nJ 20 0)):=HGS.out.aj hW.aj (fun A n c h=>by injection h with h1 h2 h3; injection h1 with h1; subst h1; exact Wp.out)
   refine gU (f:=54) (args:=#[.agg #[.iface 96 (.pointer (some ⟨b.a,0,none⟩))],.int .i64 0,.slice (some ⟨g,0,none⟩) 20 c,.agg #[.int .i64 27,.int .i64 28,.int .i64 29,.int .i64 30,.int .i64 31,.int .i64 32,.int .i64 33]]) ?_ (afT w1 hk' [.slice (some ⟨g,0,none⟩) 20 c] (fun i cs hi=>by
    match i,hi with
    | 0,hi=>injection hi with hi; subst hi; exact⟨_,rfl,axe⟩
    | _+1,hi=>cases hi) (fun v hv k hk=>by simp at hv; subst hv; injection hk with hk; subst hk; exact hgF) (fun v hv=>by simp at hv; subst hv; rfl) (vals:=[.agg #[.iface 96 (.pointer (some ⟨b.a,0,none⟩))],.int .i64 0,.slice (some ⟨g,0,none⟩) 20 c,.agg #[.int .i64 27,.int .i64 28,.int .i64 29,.int .i64 30,.int .i64 31,.int .i64 32,.int .i64 33]]) rfl) ?_
   . go_simp
   . rintro e w2 ⟨us,F6,rfl,hc,hs6,hk6,hau⟩
     match us,hau with
     | [x,y],hau =>
      obtain⟨rfl,⟨hy,hyf⟩,_⟩:=hau;exact⟨_,rfl,hK (upd γ 5 (.tuple #[.agg #[.int .i64 502,.int .i64 505,.int .i64 508,.int .i64 511,.int .i64 514,.int .i64 520,.int .i64 517],y])) w2 (qW hdn [5,6,8,11] (by kernel_rfl) hL (aqT b g c γ _)) (show R6 W5 b F5 _ true (L 9) (L 10) w2 from by rw [n10]; exact R6.run hW5 hs' hn' hc hs6 hk6 hy hyf)⟩
  | 6,ho =>
   injection ho with ho; subst ho;have s5:=aJ ak 24 5 (by kernel_rfl) (hpre ⟨5,.data⟩ (by simp) rfl);simp only [Ea] at s5;clear ak;refine au ?_ (hK γ w1 (fun _ _=>rfl) hW); go_simp; rfl
  | 7,ho =>
   injection ho with ho; subst ho;have s6:=aJ ak 18 6 (by kernel_rfl) (hpre ⟨6,.data⟩ (by simp) rfl);simp only [Ea] at s6;clear ak;have l5:L 5=true:=hdn 6 _ rfl (hpre ⟨6,.data⟩ (by simp) rfl) ⟨5,.data⟩ (by simp) rfl
   have hW5:R6 W5 b F5 γ true (L 9) (L 10) w1:=by
    have h:R6 W5 b F5 γ (L 5) (L 9) (L 10) w1:=hW;rw [l5] at h;exact h
   obtain⟨_,_,_,_,hout⟩:=hW5.kr;obtain⟨u,hu,_⟩:=hout rfl;rw [hu] at s6;refine au ?_ (hK γ w1 (fun _ _=>rfl) hW); go_simp; rfl
  | 8,ho =>
   injection ho with ho; subst ho;have s6:=aJ ak 18 6 (by kernel_rfl) (hpre ⟨6,.data⟩ (by simp) rfl);simp only [Ea] at s6;clear ak;have l5:L 5=true:=hdn 6 _ rfl (hpre ⟨6,.data⟩ (by simp) rfl) ⟨5,.data⟩ (by simp) rfl
   have hW5:R6 W5 b F5 γ true (L 9) (L 10) w1:=by
    have h:R6 W5 b F5 γ (L 5) (L 9) (L 10) w1:=hW;rw [l5] at h;exact h
   obtain⟨_,_,_,_,hout⟩:=hW5.kr;obtain⟨u,hu,_⟩:=hout rfl;rw [hu] at s6;refine au (v:=rZ (γ 5) 1) ?_ (hK γ w1 (fun _ _=>rfl) hW); rw [hu]; go_simp; first | done | rfl
  | 9,ho =>
   injection ho with ho; subst ho;clear ak
   have n10:L 10=false:=by
    cases h:L 10 with
    | false=>rfl
    | true=>have hx:L 9=true:=hdn 10 _ rfl h ⟨9,.data⟩ (by simp) rfl; rw [hL] at hx; cases hx
   have hW9:R6 W5 b F5 γ (L 5) false false w1:=by
    have h:R6 W5 b F5 γ (L 5) (L 9) (L 10) w1:=hW;rw [hL,n10] at h;exact h
   refine au (v:=.pointer (some ⟨w1.heap.size,0,none⟩)) (w':=w1.alloc (.cells #[.int .i64 0,.int .i64 0,.int .i64 0,.int .i64 0,.int .i64 0,.int .i64 0,.int .i64 0] 102)) ?_ (hK (upd γ 9 (.pointer (some ⟨w1.heap.size,0,none⟩))) _ (qW hdn [9] (by kernel_rfl) hL (aqU b g c γ _)) (show R6 W5 b F5 _ (L 5) true (L 10) _ from by rw [n10]; exact R6.new hW9));go_simp
  | 10,ho =>
   injection ho with ho; subst ho;have l9:=hpre ⟨9,.data⟩ (by simp) rfl;have s9:=aJ ak 6 9 (by kernel_rfl) l9;have s7:=aJ ak 25 7 (by kernel_rfl) (hpre ⟨7,.data⟩ (by simp) rfl);simp only [Ea] at s9 s7;clear ak;have l5:L 5=true:=hpre ⟨5,.chain⟩ (by simp) rfl;have l9:L 9=true:=hpre ⟨9,.data⟩ (by simp) rfl
   have aq2:R6 W5 b F5 γ true true false w1:=by
    have h:R6 W5 b F5 γ (L 5) (L 9) (L 10) w1:=hW;rw [l5,l9,hL] at h;exact h
   obtain⟨a,ha,haz,hb⟩:=aq2.nw rfl;have hb:aC w1 a 102 [.int .i64 0,.int .i64 0,.int .i64 0,.int .i64 0,.int .i64 0,.int .i64 0,.int .i64 0]:=hb;have f0:=hb.frozen 0;have z0:=hb.cell' (i:=0) rfl;have f1:=hb.frozen 1;have z1:=hb.cell' (i:=1) rfl;have f2:=hb.frozen 2;have z2:=hb.cell' (i:=2) rfl;have f3:=hb.frozen 3;have z3:=hb.cell' (i:=3) rfl;have f4:=hb.frozen 4;have z4:=hb.cell' (i:=4) rfl;have f5:=hb.frozen 5;have z5:=hb.cell' (i:=5) rfl;have f6:=hb.frozen 6;have z6:=hb.cell' (i:=6) rfl;have hbl:=hb.lt;rw [ha] at s9;refine uf (w':=(((((((w1.setCell ⟨a,0,none⟩ (.int .i64 502)).setCell ⟨a,1,none⟩ (.int .i64 505)).setCell ⟨a,2,none⟩ (.int .i64 508)).setCell ⟨a,3,none⟩ (.int .i64 511)).setCell ⟨a,4,none⟩ (.int .i64 514)).setCell ⟨a,5,none⟩ (.int .i64 520)).setCell ⟨a,6,none⟩ (.int .i64 517))) ?_ (hK γ _ (fun _ _=>rfl) (show R6 W5 b F5 γ (L 5) (L 9) true _ from by rw [l5,l9]; exact R6.put aq2 HQ5.out ha ((((((((ah.refl w1 [a]).setCell ⟨a,0,none⟩ (.int .i64 502) (.inl (List.mem_singleton.2 rfl))).setCell ⟨a,1,none⟩ (.int .i64 505) (.inl (List.mem_singleton.2 rfl))).setCell ⟨a,2,none⟩ (.int .i64 508) (.inl (List.mem_singleton.2 rfl))).setCell ⟨a,3,none⟩ (.int .i64 511) (.inl (List.mem_singleton.2 rfl))).setCell ⟨a,4,none⟩ (.int .i64 514) (.inl (List.mem_singleton.2 rfl))).setCell ⟨a,5,none⟩ (.int .i64 520) (.inl (List.mem_singleton.2 rfl))).setCell ⟨a,6,none⟩ (.int .i64 517) (.inl (List.mem_singleton.2 rfl))) (((((((hb.aK 0 (.int .i64 502)).aK 1 (.int .i64 505)).aK 2 (.int .i64 508)).aK 3 (.int .i64 511)).aK 4 (.int .i64 514)).aK 5 (.int .i64 520)).aK 6 (.int .i64 517))));go_simp
  | 11,ho =>
   injection ho with ho; subst ho;have s8:=aJ ak 26 8 (by kernel_rfl) (hpre ⟨8,.data⟩ (by simp) rfl);simp only [Ea] at s8;clear ak;refine au (v:=rZ (γ 5) 1) ?_ (hK γ w1 (fun _ _=>rfl) hW); go_simp; first | done | rfl
  | _+12,ho=>cases ho
 case fin =>
 intro γ w6 hW;have hW:R6 W5 b F5 γ true true true w6:=hW;obtain⟨F6,hs6,hk6,hn6,hu6⟩:=hW.kr;obtain⟨u,hu,hsl,hsf⟩:=hu6 rfl;obtain⟨A6,ha,hA6,hb6⟩:=hW.nw rfl;have hb6:aC w6 A6 102 isC:=hb6;have hk6:KR w6 b (zD b) F6:=hk6;have aq3:=hn6 A6 rfl ha;have hc6:=hW.aj
 have HF6:=hide (show ∀ k∈F6,w.heap.size<k/\k≠KK/\k≠P4/\k≠A6/\k<w6.heap.size from fun k hk=>by
  have h0:=hk6.lt k hk;have h9:k≠A6:=fun e=>aq3 (e▸hk);rcases hs6 k hk with h | h
  . have:=Ce.out k h
    omega
  . have:=HKB.out.lt
    have:=Gl.out.lt;have:=HQB.out.lt
    omega)
 have n4:P4∉F5:=fun hm=>by have:=Ce.out _ hm; omega
 have nk:KK∉F5:=fun hm=>by have:=Ce.out _ hm; omega
 have nw:w.heap.size∉F5:=fun hm=>by have:=Ce.out _ hm; omega
 have axf:=hide (Gl.out.aj hc6 n4);have ajd:=hide (HKB.out.aj hc6 nk);have aq4:=hide (HQB.out.aj hc6 nw);have DV:=hide hb6;have VE:=hide hsl;have axg:=hide hsf;have qN:Hid (ah w w6 []):=hide (jD.out.trans hc6 (fun k hk=>.inr (by have:=Ce.out k hk; omega)))
 have hdo:∀ j,j<7->∀ v,(ah w6 v F6/\∃ F',Sub F' F6 w6/\KR v b (sS b j) F')->Calls Tryz.prog 56 #[.pointer (some ⟨P4,j,none⟩),.pointer (some ⟨A6,j,none⟩),.pointer (some ⟨KK,0,none⟩)] v fun e w'=>(∃ x,e=.returned x)/\ah w6 w' F6/\∃ F',Sub F' F6 w6/\KR w' b (sS b (j+1)) F':=fun j hj v ⟨h1,F',h2,h3⟩=>by
  have n4:P4∉F6:=fun hm=>by have:=HF6.out _ hm; omega
  have na:A6∉F6:=fun hm=>by have:=HF6.out _ hm; omega
  have nk:KK∉F6:=fun hm=>by have:=HF6.out _ hm; omega
  have hb4:aC v P4 102 (dJ 7):=axf.out.aj h1 n4;refine(WV h3 P4 A6 KK j (20+j) (A8.getD j 0) (dJ 7) isC hb4 (DV.out.aj h1 na) (ajd.out.aj h1 nk) (WW j hj) (aqS j hj) (by omega) (af5 j hj) (aue b j hj)).mono ?_;rintro e w' ⟨hx,hc,F'',hs,hk⟩;refine⟨hx,h1.trans hc h2,F'',fun k hk=>?_,hk⟩;rcases hs k hk with h | h
  . exact h2 k h
  . exact .inr (Nat.le_trans h1.size h)
 have he:=Y6 (w:=w6) P4 A6 KK (fun j v=>ah w6 v F6/\∃ F',Sub F' F6 w6/\KR v b (sS b j) F') (fun j v v' ⟨h1,F',h2,h3⟩ hc=>⟨h1.trans hc (by simp),F',h2,h3.bJ hc⟩) hdo ⟨ah.refl _ _,F6,Sub.refl _ _,hk6⟩;have HE:=hide he;clear hdo he hk6 hs6 hn6 hu6 hA6 hb6 hsl hsf aq3 hc6 n4 nk nw hW;rw [jc,gy,iM];simp only [List.map_cons,List.map_nil];rw [aqV];simp only [Ea];rw [ha,hu];simp only [ank];clear ha hu;go_wp2_with fail
 go_at_call 51;refine HE.out.mono ?_;rintro e w7 ⟨⟨x7,rfl⟩,hc7,F7,hs7,ZI⟩;clear HE;have ZI:KR w7 b (Om b) F7:=ZI
 have HF7:=hide (show ∀ k∈F7,w.heap.size<k/\k≠KK/\k<w7.heap.size from fun k hk=>by
  have h0:=ZI.lt k hk;rcases hs7 k hk with h | h
  . have:=HF6.out k h
    omega
  . have:=ajd.out.lt
    have:=aq4.out.lt
    omega)
 have nk:KK∉F6:=fun hm=>by have:=HF6.out _ hm; omega
 have nw:w.heap.size∉F6:=fun hm=>by have:=HF6.out _ hm; omega
 have aq5:=hide (ajd.out.aj hc7 nk);have aq6:=hide (aq4.out.aj hc7 nw);have PZ:=VE.out.aj hc7 axg.out;have HC7:Hid (ah w w7 []):=hide (qN.out.trans hc7 (fun k hk=>.inr (by have:=HF6.out k hk; omega)));obtain⟨A,cu,rfl,_⟩:=id PZ;have UE:=fun(j:Nat) (u:Value) (hj:(ints dZ)[j]?=some u)=>PZ.at_ hj;obtain⟨bu,ou,rfl,_⟩:=UE 0 (.int .i64 ((dZ.getD 0 0:Nat):Int)) rfl
 have han:=Vs ZI dZ ⟨bu,ou,none⟩ cu (by decide) (fun j v hj=>by
  rw [add_plain];obtain⟨b',o',h1,h2,_⟩:=UE j v hj;injection h1 with h1; injection h1 with h1 h3;subst h1 h3
  exact h2) (Nat.le_of_ble_eq_true (aqL b))
 have HAN:=hide han;have y7:=aq5.out.cell' (i:=0) rfl;rw [show(ints dZ).length=dZ.length by simp [ints]];clear ZI hs7 hc7 nk nw PZ UE han;go_wp2_with fail
 go_at_call 58;refine HAN.out.mono ?_;rintro e w8 ⟨rfl,hc8,F8,hs8,hk8⟩;clear HAN y7
 have HF8:=hide (show ∀ k∈F8,w.heap.size+1<=k from fun k hk=>by
  rcases hs8 k hk with h | h
  . have:=HF7.out k h
    omega
  . have:=aq6.out.lt
    omega)
 have nk:KK∉F7:=fun hm=>by have:=HF7.out _ hm; omega
 have nw:w.heap.size∉F7:=fun hm=>by have:=HF7.out _ hm; omega
 have y8:=(aq5.out.aj hc8 nk).cell' (i:=0) rfl;have jB:=hide (HC7.out.trans hc8 (fun k hk=>.inr (by have:=HF7.out k hk; omega)));have HQ5:=hide (aq6.out.aj hc8 nw);have Ce:=HF8;have hk3:KR w8 b (nV b) F8:=hk8;have hfi:=PY hk3 (aqI b) (Nat.le_of_ble_eq_true (aqJ b)) (ana b);rw [anb,ai0,anc,ai1] at hfi;clear hc8 hs8 hk8 hk3 nk nw;go_wp2_with fail
 go_at_call 59;refine hfi.mono ?_;rintro e w6 ⟨v,rfl,hc6,him,hfr⟩
 have hfr:VA v [] w.heap.size:=fun c d se i o e u hu A m k hA=>by
  have hz8:=jB.out.size;rcases hfr c d se i o e u hu A m k hA with h | h
  . have:=Ce.out _ h
    exact .inr (by omega)
  . exact .inr (by omega)
 have HFR:=hide hfr;clear hfr;obtain⟨vc,vd,vs,vi,vo,rfl,h1,h2,h3,h4,h5⟩:=id him;obtain⟨a1,c1,rfl,_⟩:=id h1;obtain⟨a2,c2,rfl,_⟩:=id h2;obtain⟨a3,c3,rfl,_⟩:=id h3;obtain⟨a4,c4,rfl,_⟩:=id h4;obtain⟨a5,c5,rfl,_⟩:=id h5;have aq7:w.heap.size∉F8:=fun hm=>by have:=Ce.out _ hm; omega
 have hb6:=HQ5.out.aj hc6 aq7;clear y8;have v0:=hb6.cell' (i:=0) rfl;have v1:=hb6.cell' (i:=1) rfl;have v2:=hb6.cell' (i:=2) rfl;have v3:=hb6.cell' (i:=3) rfl;have v4:=hb6.cell' (i:=4) rfl;have k0:=hb6.frozen 0;have k1:=hb6.frozen 1;have k2:=hb6.frozen 2;have k3:=hb6.frozen 3;have k4:=hb6.frozen 4;have hbl:=hb6.lt;have DV:=hide hb6;have RH:=hide him;have qN:Hid (ah w w6 []):=hide (jB.out.trans hc6 (fun k hk=>.inr (by have:=Ce.out k hk; omega)));clear hfi hc6 him h1 h2 h3 h4 h5 aq7 hb6;go_wp2;have hfb:=((((DV.out.aK 0 (.slice a1 (jH ((wordsOf aY 2921).map fun w:Nat=>(w:Int))).length c1)).aK 1 (.slice a2 (bG dA).length c2)).aK 2 (.slice a3 (bools kR).length c3)).aK 3 (.slice a4 (ints [0,1,2,3,4,5,6,7,8,9,10,11,12,13,14,15,16,17,18,19]).length c4)).aK 4 (.slice a5 (ints dZ).length c5);have hcf:ah w6 (((((w6.setCell ⟨w.heap.size,0,none⟩ (.slice a1 (jH ((wordsOf aY 2921).map fun w:Nat=>(w:Int))).length c1)).setCell ⟨w.heap.size,1,none⟩ (.slice a2 (bG dA).length c2)).setCell ⟨w.heap.size,2,none⟩ (.slice a3 (bools kR).length c3)).setCell ⟨w.heap.size,3,none⟩ (.slice a4 (ints [0,1,2,3,4,5,6,7,8,9,10,11,12,13,14,15,16,17,18,19]).length c4)).setCell ⟨w.heap.size,4,none⟩ (.slice a5 (ints dZ).length c5)) [w.heap.size]:=((((((ah.refl w6 [w.heap.size]).setCell _ _ (.inl (List.mem_singleton.2 rfl))).setCell _ _ (.inl (List.mem_singleton.2 rfl))).setCell _ _ (.inl (List.mem_singleton.2 rfl))).setCell _ _ (.inl (List.mem_singleton.2 rfl))).setCell _ _ (.inl (List.mem_singleton.2 rfl)))
 refine bodyPost_ret (v:=.agg #[.slice a1 (jH ((wordsOf aY 2921).map fun w:Nat=>(w:Int))).length c1,.slice a2 (bG dA).length c2,.slice a3 (bools kR).length c3,.slice a4 (ints [0,1,2,3,4,5,6,7,8,9,10,11,12,13,14,15,16,17,18,19]).length c4,.slice a5 (ints dZ).length c5]) (results_cell_row rfl _ _ w.heap.size 66 _ (0,0) _ rfl hfb Tryz.underlying66 rfl (by kernel_rfl)) rfl ⟨_,rfl,qN.out.trans hcf (fun k hk=>.inr (by simp at hk; omega)),RH.out.far DV.out hcf,HFR.out⟩
