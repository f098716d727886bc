/- Two scripts of one shape leak the same: the law at the top. -/
import Derived.Test.YtnkmmaijigihpaaGreatDoorTopW
set_option linter.unusedVariables false
set_option linter.unusedSimpArgs false
namespace Go.Proofs.YtnkmmaijigihpaaGreatDoor
open Go Go.RowKit Go.Deep Go.Maps Go.Shelf Ab Xi
attribute [local go_sem] Oper.semAt_some
def sG (d1 d2 s:Nat) (κ:Int) (_:Unit):Nat->Value
 | 0 => .pointer (some ⟨s,1,none⟩)
 | 1 => .bool true
 | 2 => .bool true
 | 3 => .int .i64 0
 | 4 => .bool true
 | 5 => .bool true
 | 6 => .bool true
 | 7 => .pointer (some ⟨d1,0,none⟩)
 | 8 => .int .i64 κ
 | 9 => .pointer (some ⟨d2,0,none⟩)
 | 10 => .int .i64 κ
 | 11 => .bool true
 | 12 => .bool true
 | 13 => .bool true
 | 14 => .pointer (some ⟨s,3,none⟩)
 | 15 => .int .i64 κ
 | 16 => .pointer (some ⟨d1,0,none⟩)
 | 17 => .int .i64 κ
 | 18 => .bool true
 | 19 => .bool true
 | 20 => .bool true
 | 21 => .bool true
 | 22 => .bool true
 | 23 => .bool true
 | _ => undef
theorem anm (v:Nat->Value) (t0 t1 t2 t3 t4 t5 t6 t7 t8 t9 t10 t11 t12 t13 t14 t15 t16 t17 t18 t19 t20 t21 t22 t23 t24 t25 t26 t27 t28 t29 t30 t31 t32 t33 t34 t35 t36 t37 t38 t39 t40 t41 t42 t43 t44 t45 t46 t47 t48 t49 t50 t51 t52 t53 t54 t55 t56 t57 t58 t59 t60 t61 t62 t63 t64 t65 t66 t67 t68 t69 t70 t71 t72 t73 t74 t75 t76 t77 t78 t79 t80 t81 t82 t83 t84 t85 t86 t87 t88 t89 t90 t91 t92 t93 t94 t95 t96 t97 t98 t99 t100 t101 t102 t103 t104 t105 t106 t107 t108 t109 t110 t111 t112 t113 t114:Value):jH v (some 92 :: some 93 :: some 94 :: some 95 :: some 96 :: some 97 :: some 98 :: some 99 :: some 100 :: some 101 :: some 102 :: some 103 :: some 104 :: some 105 :: some 106 :: some 107 :: some 108 :: some 109 :: some 110 :: some 111 :: some 112 :: some 113 :: some 114 :: some 4 :: []) 0 (t0 :: t1 :: t2 :: t3 :: t4 :: t5 :: t6 :: t7 :: t8 :: t9 :: t10 :: t11 :: t12 :: t13 :: t14 :: t15 :: t16 :: t17 :: t18 :: t19 :: t20 :: t21 :: t22 :: t23 :: t24 :: t25 :: t26 :: t27 :: t28 :: t29 :: t30 :: t31 :: t32 :: t33 :: t34 :: t35 :: t36 :: t37 :: t38 :: t39 :: t40 :: t41 :: t42 :: t43 :: t44 :: t45 :: t46 :: t47 :: t48 :: t49 :: t50 :: t51 :: t52 :: t53 :: t54 :: t55 :: t56 :: t57 :: t58 :: t59 :: t60 :: t61 :: t62 :: t63 :: t64 :: t65 :: t66 :: t67 :: t68 :: t69 :: t70 :: t71 :: t72 :: t73 :: t74 :: t75 :: t76 :: t77 :: t78 :: t79 :: t80 :: t81 :: t82 :: t83 :: t84 :: t85 :: t86 :: t87 :: t88 :: t89 :: t90 :: t91 :: t92 :: t93 :: t94 :: t95 :: t96 :: t97 :: t98 :: t99 :: t100 :: t101 :: t102 :: t103 :: t104 :: t105 :: t106 :: t107 :: t108 :: t109 :: t110 :: t111 :: t112 :: t113 :: t114 :: []) = (t0 :: t1 :: t2 :: t3 :: v 23 :: t5 :: t6 :: t7 :: t8 :: t9 :: t10 :: t11 :: t12 :: t13 :: t14 :: t15 :: t16 :: t17 :: t18 :: t19 :: t20 :: t21 :: t22 :: t23 :: t24 :: t25 :: t26 :: t27 :: t28 :: t29 :: t30 :: t31 :: t32 :: t33 :: t34 :: t35 :: t36 :: t37 :: t38 :: t39 :: t40 :: t41 :: t42 :: t43 :: t44 :: t45 :: t46 :: t47 :: t48 :: t49 :: t50 :: t51 :: t52 :: t53 :: t54 :: t55 :: t56 :: t57 :: t58 :: t59 :: t60 :: t61 :: t62 :: t63 :: t64 :: t65 :: t66 :: t67 :: t68 :: t69 :: t70 :: t71 :: t72 :: t73 :: t74 :: t75 :: t76 :: t77 :: t78 :: t79 :: t80 :: t81 :: t82 :: t83 :: t84 :: t85 :: t86 :: t87 :: t88 :: t89 :: t90 :: t91 :: v 0 :: v 1 :: v 2 :: v 3 :: v 4 :: v 5 :: v 6 :: v 7 :: v 8 :: v 9 :: v 10 :: v 11 :: v 12 :: v 13 :: v 14 :: v 15 :: v 16 :: v 17 :: v 18 :: v 19 :: v 20 :: v 21 :: v 22 :: []):=by kernel_rfl
theorem dU.ano {w1 w:World} {d1 d2 n1 n2:Nat} {r1 r2:Bool} (h:dU w1 w d1 d2 n1 n2 r1 r2) {κ:Int} (hκ:bQ n1 = κ):Calls Tryz.prog 13 #[.pointer (some ⟨d1,0,none⟩)] w fun e w' => e = .returned (.int .i64 κ)/\w = w':=hκ ▸ h.ahc
theorem dU.anp {w1 w:World} {d1 d2 n1 n2:Nat} {r1 r2:Bool} (h:dU w1 w d1 d2 n1 n2 r1 r2) {κ:Int} (hκ:bQ n2 = κ):Calls Tryz.prog 13 #[.pointer (some ⟨d2,0,none⟩)] w fun e w' => e = .returned (.int .i64 κ)/\w = w':=hκ ▸ h.ahd
theorem dU.made {w1 w2 w3:World} {d1 c1 d2 c2:Nat} {F1 I1 F2 I2:List Nat} (hd1:dD w2 d1 c1 st0 iD false 0 F1 I1) (hf1:∀ k∈d1 :: (F1 ++ I1),w1.heap.size<=k) (hc2:ah w1 w2 []) (hd2:dD w3 d2 c2 st0 iD false 0 F2 I2) (hf2:∀ k∈d2 :: (F2 ++ I2),w2.heap.size<=k) (hc3:ah w2 w3 []):dU w1 w3 d1 d2 0 0 false false :=
 ⟨_,_,⟨c1,st0,iD,F1,I1,hd1.aV hc3,rfl⟩,⟨c2,st0,iD,F2,I2,hd2,rfl⟩,fun k hk => ⟨fun hm => by have:=hd1.low k hk; have:=hf2 k hm; omega,hf1 k hk⟩,fun k hk => Nat.le_trans hc2.size (hf2 k hk),hc2.trans hc3 (by simp)⟩
theorem agb {ds es:List bg} (h:lg ds es = true) {j:Nat} {d e:bg} (hd:ds[j]? = some d) (he:es[j]? = some e):dP e = dP d:=by
 have hm:=of_decide_eq_true h;have h1:(ds.map dP)[j]? = some (dP d):=by rw [List.getElem?_map,hd]; rfl
 have h2:(es.map dP)[j]? = some (dP e):=by rw [List.getElem?_map,he]; rfl
 rw [hm,h2] at h1;injection h1
set_option maxRecDepth 100000 in
set_option maxHeartbeats 8000000 in
theorem Nc {w:World} (hg:jw w) {A A':Option Addr} {c c':Nat} {ds es:List bg} (h:Dq w A ds) (h':Dq w A' es) (hl:ds.length<=maxLen) (hl':es.length<=maxLen) (hln:∀ d∈ds,d.2.length<=maxLen/\∀ y∈d.2,y < 256) (hln':∀ d∈es,d.2.length<=maxLen/\∀ y∈d.2,y < 256) :
 Calls Tryz.prog 3 #[.slice A ds.length c,.slice A' es.length c'] w fun e w' => e = .returned (.bool true)/\ah w w' []:=by
 have hfa:=adf (c:=c) 6 h hl (fun d hd => (hln d hd).1);obtain ⟨vs,hr⟩:=qJ.of h;obtain ⟨us,hr'⟩:=qJ.of h';have hsh:=U2 (c:=c) (c':=c') hr hr' hl hl';have HG:=hide hg;have HR:=hide hr;have HR':=hide hr';have HLN:=hide hln;have U1:=hide hln';have HSH:=hide hsh;clear h h' hln hln' hr hr' hg hsh
 cases ha:E5 ds 6 with
 | false =>
  rw [ha] at hfa;have HFA:=hide hfa;clear hfa ha hl hl';go_enter Tryz.func3,Tryz.ntmps3
  go_wp2_with fail
  go_at_call 4;refine HFA.out.mono ?_;rintro e w0 ⟨rfl,hw0⟩;obtain rfl:=hw0.symm;have haw:=uF HG.out;have HAW:=hide haw;clear haw;go_wp2_with fail
  go_at_call 6;refine HAW.out.mono ?_;rintro e wz ⟨rfl,hcz⟩;have HCZ:=hide (hcz);clear hcz;go_wp2;go_ret;exact ⟨rfl,HCZ.out⟩
 | true =>
  rw [ha] at hfa;have HFA:=hide hfa;have hla:=(UQ ha).2;clear hfa ha;have hla:ds.length<=6:=by omega
  cases hS:lg ds es with
  | false =>
   rw [hS] at HSH;clear hl hl';go_enter Tryz.func3,Tryz.ntmps3
   go_wp2_with fail
   go_at_call 4;refine HFA.out.mono ?_;rintro e w0 ⟨rfl,hw0⟩;obtain rfl:=hw0.symm;go_wp2_with fail
   go_at_call 5;refine HSH.out.mono ?_;rintro e w1 ⟨rfl,hc1⟩;have bD:=hide hc1;clear hc1;have haw:=uF (HG.out.aj bD.out (by simp));have HAW:=hide haw;clear haw;go_wp2_with fail
   go_at_call 6;refine HAW.out.mono ?_;rintro e wz ⟨rfl,hcz⟩;have HCZ:=hide (bD.out.trans hcz (D:=[]) (by simp));clear hcz;go_wp2;go_ret;exact ⟨rfl,HCZ.out⟩
  | true =>
   rw [hS] at HSH
   have hle:es.length = ds.length:=by
    have:=congrArg List.length (of_decide_eq_true hS)
    simpa using this.symm
   have hlb:es.length<=6:=by omega
   have dV:=hide hS;have HLE:=hide hle;clear hl hl' hle hS;go_enter Tryz.func3,Tryz.ntmps3
   go_wp2_with fail
   go_at_call 4;refine HFA.out.mono ?_;rintro e w0 ⟨rfl,hw0⟩;obtain rfl:=hw0.symm;go_wp2_with fail
   go_at_call 5;refine HSH.out.mono ?_;rintro e w1 ⟨rfl,hc1⟩;have bD:=hide hc1;clear hc1;have hnw:=sD w1 (HG.out.aj bD.out (by simp));have HNW:=hide hnw;clear hnw;go_wp2_with fail
   go_at_call 7;refine HNW.out.mono ?_;rintro e w2 ⟨d1,c1,F1,I1,rfl,hc2,hd1,hf1⟩;have HC2:=hide hc2;have HD1:=hide hd1;have iM:=hide hf1;have hnw:=sD w2 (HG.out.aj (bD.out.trans hc2 (D:=[]) (by simp)) (by simp));have HNV:=hide hnw;clear HNW hc2 hd1 hf1 hnw;go_wp2_with fail
   go_at_call 7;refine HNV.out.mono ?_;rintro e w3 ⟨d2,c2,F2,I2,rfl,hc3,hd2,hf2⟩;have HT:=hide (dU.made HD1.out iM.out HC2.out hd2 hf2 hc3);clear HNV hc3 hd2 hf2 HC2 HD1 iM;go_wp2_with fail
   go_loopw [7,8,9,10,11] (fun i _ _ _ _ wr => ∃ j:Nat,j<=ds.length/\i = .int .i64 j/\Hid (∃ q:Bool,dU w1 wr d1 d2 (bV (ds.take j)) (bV (ds.take j)) q q)) (fun i _ _ _ _ _ => ds.length - (intOf i).toNat)
   case atStart => exact ⟨0,Nat.zero_le _,rfl,hide ⟨false,HT.out⟩⟩
   case round =>
    clear HT;obtain ⟨j,hj,rfl,HT⟩:=hrel;by_cases hlt:j < ds.length
    . obtain ⟨ba,oa,rfl,hxA⟩:=HR.out (by omega)
      have hlt':j < es.length:=by have:=HLE.out; omega
      obtain ⟨bb,ob,rfl,hxB⟩:=HR'.out (by omega);have gd:=List.getElem?_eq_getElem hlt;have ge:=List.getElem?_eq_getElem hlt';obtain ⟨qa0,qa1,⟨B,k1,ea⟩,qs⟩:=hxA j (ds[j]'hlt) gd;obtain ⟨qb0,qb1,⟨B',k2,eb⟩,qt⟩:=hxB j (es[j]'hlt') ge;have hmem:=HLN.out _ (List.getElem_mem hlt);have hmem':=U1.out _ (List.getElem_mem hlt');have hkk:=agb dV.out gd ge;rw [ea] at qa1 qs;rw [eb] at qb1 qt;have hrt:=KX gd;have hrl:=af4 (ds.take j);have htl:(ds.take j).length<=j:=by rw [List.length_take]; omega
      generalize ds[j]'hlt = dd at *;generalize es[j]'hlt' = ee at *;obtain ⟨f,dl⟩:=dd;obtain ⟨f',el⟩:=ee;obtain rfl:f = f':=(congrArg Prod.fst hkk).symm;simp only at qa0 qa1 qs hmem qb0 qb1 qt hmem';obtain ⟨q,ht⟩:=HT.out;have hcw:=bD.out.trans ht.world (D:=[]) (by simp);have q0:=hcw.cell qa0 (by simp);have q1:=hcw.cell qa1 (by simp);have HX:=hide (qs.keep hcw);have HYW:=hide qt;have HQB:=hide qb1;have HGW:=hide (HG.out.aj hcw (by simp));have HRT:=hide hrt;have HKK:=hide hkk;have HM:=hide hmem;have HM':=hide hmem';clear hxA hxB gd ge ea eb qa0 qa1 qb0 qb1 qs qt hmem hmem' hrt hcw hkk HT
      cases f with
      | false =>
       have hn1:bV (ds.take (j + 1)) = bV (ds.take j):=by rw [HRT.out,show bZ (false,dl) = 0 from rfl]; rfl
       have yA:=hide hn1;have HT3:=hide ht;clear hn1 ht;generalize bV (ds.take j) = r at *;have hk:=HT3.out.anf HGW.out;have HK:=hide hk;clear hk;go_wp2_with fail
       go_at_call 8;refine HK.out.mono ?_;rintro e w4 ⟨v,rfl,ht⟩;have HT4:=hide ht;clear HK ht;have hk:=HT4.out.ang (HG.out.aj (bD.out.trans HT4.out.world (D:=[]) (by simp)) (by simp));have HK:=hide hk;clear hk;go_wp2_with fail
       go_at_call 8;refine HK.out.mono ?_;rintro e w5 ⟨v,rfl,ht⟩;have U3:=hide ht;clear HK ht;go_wp2;go_roundw
       case rel => exact ⟨j + 1,by omega,by go_num,hide ⟨false,by rw [yA.out]; exact U3.out⟩⟩
       case measure => simp [intOf]; omega
      | true =>
       have hel:el.length = dl.length:=congrArg Prod.snd HKK.out;by_cases h20:dl.length = 20
       . have hn1:bV (ds.take (j + 1)) = bV (ds.take j) + 1:=by rw [HRT.out,show bZ (true,dl) = 1 by unfold bZ; simp [h20]]
         have Dt:el.length = 20:=by omega
         have yA:=hide hn1;have anr:=hide Dt;have H20:=hide h20;have hk1:=ht.aoI HGW.out h20 (by omega) HM.out.2 HX.out;have hk2:=fun (w4:World) (q':Bool) (hg:jw w4) (zM:dU w1 w4 d1 d2 (bV (ds.take j) + 1) (bV (ds.take j)) true q') (hy:Sl w4 (.slice B' el.length k2) (bU el)) => zM.aoJ hg Dt (by omega) HM'.out.2 hy;rw [h20] at hk1 q1;rw [Dt] at hk2;have sK:=hide hk1;have gQ:=hide hk2;have HT3:=hide ht;clear hn1 ht h20 hel Dt hk1 hk2;generalize bV (ds.take j) = r at *;go_wp2_with fail
         go_at_call 9;refine sK.out.mono ?_;rintro e w4 ⟨A1,a1,rfl,zM⟩;have hc4:=bD.out.trans zM.world (D:=[]) (by simp);have p1:=hc4.cell HQB.out (by simp);rw [anr.out] at p1;have hk:=gQ.out w4 _ (HG.out.aj hc4 (by simp)) zM (by rw [<- anr.out]; exact HYW.out.keep hc4);have HK:=hide hk;clear zM hc4 hk sK gQ;go_wp2_with fail
         go_at_call 9;refine HK.out.mono ?_;rintro e w5 ⟨A2,a2,rfl,OM⟩;have U3:=hide OM;clear OM HK;have hk:=U3.out.La;have HK:=hide hk;clear hk;go_wp2_with fail
         go_at_call 11;refine HK.out.mono ?_;rintro e w6 ⟨v1,rfl,hc5,zq⟩;have HT6:=hide (U3.out.aV hc5);have Eb:=hide zq;clear HK hc5 zq;have hk:=HT6.out.Lc;have HK:=hide hk;clear hk;go_wp2_with fail
         go_at_call 11;refine HK.out.mono ?_;rintro e w7 ⟨v2,rfl,hc6,hm6⟩;have zq:MR _ _ v1 w7:=MV.aj Eb.out hc6 (by simp);have HT7:=hide (HT6.out.aV hc6);have hsm:=adn zq hm6;have HSM:=hide hsm;clear HK hc6 zq hm6 hsm Eb;go_wp2_with fail
         go_at_call 10;refine HSM.out.mono ?_;rintro e w8 ⟨rfl,hc7⟩;have HT8:=hide (HT7.out.aV hc7);clear HSM hc7;go_wp2;go_roundw
         case rel => exact ⟨j + 1,by omega,by go_num,hide ⟨true,by rw [yA.out]; exact HT8.out⟩⟩
         case measure => simp [intOf]; omega
       . have hn1:bV (ds.take (j + 1)) = bV (ds.take j):=by rw [HRT.out,show bZ (true,dl) = 0 by unfold bZ; simp [h20]]; rfl
         have yA:=hide hn1;have Dt:el.length≠20:=by omega
         have hk1:=ht.no1 h20 HM.out.1 B k1;have hk2:=fun (w4:World) (zM:dU w1 w4 d1 d2 (bV (ds.take j)) (bV (ds.take j)) q q) => zM.no2 Dt HM'.out.1 B' k2;rw [hel] at hk2;have HEL:=hide hel;have sK:=hide hk1;have gQ:=hide hk2;clear hn1 ht h20 Dt hk1 hk2 hel;generalize bV (ds.take j) = r at *;go_wp2_with fail
         go_at_call 9;refine sK.out.mono ?_;rintro e w4 ⟨rfl,zM⟩;have p1:=(bD.out.trans zM.world (D:=[]) (by simp)).cell HQB.out (by simp);rw [HEL.out] at p1;have hk:=gQ.out w4 zM;have HK:=hide hk;clear zM hk sK gQ;go_wp2_with fail
         go_at_call 9;refine HK.out.mono ?_;rintro e w5 ⟨rfl,OM⟩;have U3:=hide OM;clear OM HK;have hk:=U3.out.La;have HK:=hide hk;clear hk;go_wp2_with fail
         go_at_call 11;refine HK.out.mono ?_;rintro e w6 ⟨v1,rfl,hc5,zq⟩;have HT6:=hide (U3.out.aV hc5);have Eb:=hide zq;clear HK hc5 zq;have hk:=HT6.out.Lc;have HK:=hide hk;clear hk;go_wp2_with fail
         go_at_call 11;refine HK.out.mono ?_;rintro e w7 ⟨v2,rfl,hc6,hm6⟩;have zq:MR _ _ v1 w7:=MV.aj Eb.out hc6 (by simp);have HT7:=hide (HT6.out.aV hc6);have hsm:=adn zq hm6;have HSM:=hide hsm;clear HK hc6 zq hm6 hsm Eb;go_wp2_with fail
         go_at_call 10;refine HSM.out.mono ?_;rintro e w8 ⟨rfl,hc7⟩;have HT8:=hide (HT7.out.aV hc7);clear HSM hc7;go_wp2;go_roundw
         case rel => exact ⟨j + 1,by omega,by go_num,hide ⟨q,by rw [yA.out]; exact HT8.out⟩⟩
         case measure => simp [intOf]; omega
    . have hjl:j = ds.length:=by omega
      subst hjl;obtain ⟨q,ht⟩:=HT.out;rw [List.take_of_length_le (Nat.le_refl _)] at ht;have hcw:=bD.out.trans ht.world (D:=[]) (by simp);have hk:=af_ (c:=c) (c':=c') (HG.out.aj hcw (by simp)) (HR.out.keep hcw) (HR'.out.keep hcw) HLN.out U1.out (by omega) dV.out;unfold Ld at hk;obtain ⟨κ,hκ⟩:∃ κ:Int,bQ (bV ds) = κ:=⟨_,rfl⟩
      rw [hκ] at hk;have HK:=hide hk;have HT9:=hide ht;have OO:=hide hcw;have HKA:=hide hκ;clear hk ht hcw hκ HT;go_wp2_with fail
      go_at_call 12;refine HK.out.mono ?_;rintro e w6 ⟨rfl,hcn⟩;have hcv:=(ah.refl w6 []).alloc (.cells #[.bool true,.bool true,.int .i64 (-1),.int .i64 κ] 39);have vY:=hide (hcn.trans hcv (D:=[]) (by simp));have T_:=hide (OO.out.trans vY.out (D:=[]) (by simp));have wo:=hide (aA.new w6 39 [.bool true,.bool true,.int .i64 (-1),.int .i64 κ]);have hk1:=(HT9.out.aV vY.out).ahc;have hk2:=(HT9.out.aV vY.out).ahd;rw [HKA.out] at hk1 hk2;have sK:=hide hk1;have gQ:=hide hk2;have hb:=wo.out;have y0:=hb.cell' (i:=0) rfl;have y1:=hb.cell' (i:=1) rfl;have y2:=hb.cell' (i:=2) rfl;have y3:=hb.cell' (i:=3) rfl;have Y1:=hide y1;have Y3:=hide y3;have agc:=hide (show ∀ w1,ah _ w1 []->_/\_ from fun w1 hc => And.intro ((HT9.out.aV (vY.out.trans hc (by simp))).ano HKA.out) ((HT9.out.aV (vY.out.trans hc (by simp))).anp HKA.out));have HAW:=hide (show ∀ w1,ah _ w1 []->_ from fun w1 hc => uF (HG.out.aj (T_.out.trans hc (D:=[]) (by simp)) (by simp)));have dI:Tryz.prog.follows .mixedOrders = true:=by kernel_rfl
      clear hcn HK hcv hk1 hk2 hb y0 y1 y2 y3 sK gQ wo;go_wp2_with fail
      refine gV dI _ _ (fun (_:Unit) => sG d1 d2 w6.heap.size κ ()) (fun (_:Unit) L w' => ah (w6.alloc (.cells #[.bool true,.bool true,.int .i64 (-1),.int .i64 κ] 39)) w' []) () (by kernel_rfl) [(2,true),(6,true),(13,true),(20,true)] (by kernel_rfl) (fun p hp γ => by simp at hp; rcases hp with rfl | rfl | rfl | rfl <;> rfl) (by kernel_rfl) ?step ?start ?fin ?ext
      case start => exact (ah.refl _ []).drewN _
      case ext => exact fun γ L L' w' h hw => hw
      case step =>
       intro i_ o_ ho_ L a w1 γ hdn ak hW hL hpre K' Q' hK;have hW:ah (w6.alloc (.cells #[.bool true,.bool true,.int .i64 (-1),.int .i64 κ] 39)) w1 []:=hW
       match i_,ho_ with
       | 0,ho =>
        injection ho with ho; subst ho;have b12:a.tmps.getD 12 undef = .pointer (some ⟨w6.heap.size,0,none⟩):=dH ak 12 (by kernel_rfl);clear ak;refine au ?_ (hK () w1 (fun _ _ => rfl) hW); go_simp; rfl
       | 1,ho =>
        injection ho with ho; subst ho;have s0:=aF ak 92 0 (by kernel_rfl) (hpre ⟨0,.data⟩ (by simp) rfl);simp only [sG] at s0;clear ak;have y1:=hW.cell Y1.out (by simp);refine au ?_ (hK () w1 (fun _ _ => rfl) hW); go_simp; rfl
       | 2,ho =>
        injection ho with ho; subst ho;have s1:=aF ak 93 1 (by kernel_rfl) (hpre ⟨1,.data⟩ (by simp) rfl);simp only [sG] at s1;clear ak;refine au ?_ (hK () w1 (fun _ _ => rfl) hW); go_simp; rfl
       | 3,ho =>
        injection ho with ho; subst ho;have b13:a.tmps.getD 13 undef = .int .i64 0:=dH ak 13 (by kernel_rfl);clear ak;refine au ?_ (hK () w1 (fun _ _ => rfl) hW); go_simp; rfl
       | 4,ho =>
        injection ho with ho; subst ho;have s3:=aF ak 95 3 (by kernel_rfl) (hpre ⟨3,.data⟩ (by simp) rfl);simp only [sG] at s3;clear ak;refine au ?_ (hK () w1 (fun _ _ => rfl) hW); go_simp; rfl
       | 5,ho =>
        injection ho with ho; subst ho;have s2:=aF ak 94 2 (by kernel_rfl) (hpre ⟨2,.data⟩ (by simp) rfl);have s4:=aF ak 96 4 (by kernel_rfl) (hpre ⟨4,.data⟩ (by simp) rfl);simp only [sG] at s2 s4;clear ak;refine au ?_ (hK () w1 (fun _ _ => rfl) hW); go_simp; rfl
       | 6,ho =>
        injection ho with ho; subst ho;have s5:=aF ak 97 5 (by kernel_rfl) (hpre ⟨5,.data⟩ (by simp) rfl);simp only [sG] at s5;clear ak;refine au ?_ (hK () w1 (fun _ _ => rfl) hW); go_simp; rfl
       | 7,ho =>
        injection ho with ho; subst ho;have b5:a.tmps.getD 5 undef = .pointer (some ⟨d1,0,none⟩):=dH ak 5 (by kernel_rfl);clear ak;refine au ?_ (hK () w1 (fun _ _ => rfl) hW); go_simp; rfl
       | 8,ho =>
        injection ho with ho; subst ho;have s7:=aF ak 99 7 (by kernel_rfl) (hpre ⟨7,.data⟩ (by simp) rfl);simp only [sG] at s7;clear ak;refine dK (f:=13) (args:=#[.pointer (some ⟨d1,0,none⟩)]) ?_ ((agc.out w1 hW).1) ?_
        . go_simp
        rintro e w2 ⟨rfl,rfl⟩;exact ⟨_,rfl,hK () w1 (fun _ _ => rfl) hW⟩
       | 9,ho =>
        injection ho with ho; subst ho;have b6:a.tmps.getD 6 undef = .pointer (some ⟨d2,0,none⟩):=dH ak 6 (by kernel_rfl);clear ak;refine au ?_ (hK () w1 (fun _ _ => rfl) hW); go_simp; rfl
       | 10,ho =>
        injection ho with ho; subst ho;have s9:=aF ak 101 9 (by kernel_rfl) (hpre ⟨9,.data⟩ (by simp) rfl);simp only [sG] at s9;clear ak;refine dK (f:=13) (args:=#[.pointer (some ⟨d2,0,none⟩)]) ?_ ((agc.out w1 hW).2) ?_
        . go_simp
        rintro e w2 ⟨rfl,rfl⟩;exact ⟨_,rfl,hK () w1 (fun _ _ => rfl) hW⟩
       | 11,ho =>
        injection ho with ho; subst ho;have s8:=aF ak 100 8 (by kernel_rfl) (hpre ⟨8,.data⟩ (by simp) rfl);have s10:=aF ak 102 10 (by kernel_rfl) (hpre ⟨10,.data⟩ (by simp) rfl);simp only [sG] at s8 s10;clear ak;refine au ?_ (hK () w1 (fun _ _ => rfl) hW); go_simp; rfl
       | 12,ho =>
        injection ho with ho; subst ho;have s6:=aF ak 98 6 (by kernel_rfl) (hpre ⟨6,.data⟩ (by simp) rfl);have s11:=aF ak 103 11 (by kernel_rfl) (hpre ⟨11,.data⟩ (by simp) rfl);simp only [sG] at s6 s11;clear ak;refine au ?_ (hK () w1 (fun _ _ => rfl) hW); go_simp; rfl
       | 13,ho =>
        injection ho with ho; subst ho;have s12:=aF ak 104 12 (by kernel_rfl) (hpre ⟨12,.data⟩ (by simp) rfl);simp only [sG] at s12;clear ak;refine au ?_ (hK () w1 (fun _ _ => rfl) hW); go_simp; rfl
       | 14,ho =>
        injection ho with ho; subst ho;have b12:a.tmps.getD 12 undef = .pointer (some ⟨w6.heap.size,0,none⟩):=dH ak 12 (by kernel_rfl);clear ak;refine au ?_ (hK () w1 (fun _ _ => rfl) hW); go_simp; rfl
       | 15,ho =>
        injection ho with ho; subst ho;have s14:=aF ak 106 14 (by kernel_rfl) (hpre ⟨14,.data⟩ (by simp) rfl);simp only [sG] at s14;clear ak;have y3:=hW.cell Y3.out (by simp);refine au ?_ (hK () w1 (fun _ _ => rfl) hW); go_simp; rfl
       | 16,ho =>
        injection ho with ho; subst ho;have b5:a.tmps.getD 5 undef = .pointer (some ⟨d1,0,none⟩):=dH ak 5 (by kernel_rfl);clear ak;refine au ?_ (hK () w1 (fun _ _ => rfl) hW); go_simp; rfl
       | 17,ho =>
        injection ho with ho; subst ho;have s16:=aF ak 108 16 (by kernel_rfl) (hpre ⟨16,.data⟩ (by simp) rfl);simp only [sG] at s16;clear ak;refine dK (f:=13) (args:=#[.pointer (some ⟨d1,0,none⟩)]) ?_ ((agc.out w1 hW).1) ?_
        . go_simp
        rintro e w2 ⟨rfl,rfl⟩;exact ⟨_,rfl,hK () w1 (fun _ _ => rfl) hW⟩
       | 18,ho =>
        injection ho with ho; subst ho;have s15:=aF ak 107 15 (by kernel_rfl) (hpre ⟨15,.data⟩ (by simp) rfl);have s17:=aF ak 109 17 (by kernel_rfl) (hpre ⟨17,.data⟩ (by simp) rfl);simp only [sG] at s15 s17;clear ak;refine au ?_ (hK () w1 (fun _ _ => rfl) hW); go_simp; rfl
       | 19,ho =>
        injection ho with ho; subst ho;have s13:=aF ak 105 13 (by kernel_rfl) (hpre ⟨13,.data⟩ (by simp) rfl);have s18:=aF ak 110 18 (by kernel_rfl) (hpre ⟨18,.data⟩ (by simp) rfl);simp only [sG] at s13 s18;clear ak;refine au ?_ (hK () w1 (fun _ _ => rfl) hW); go_simp; rfl
       | 20,ho =>
        injection ho with ho; subst ho;have s19:=aF ak 111 19 (by kernel_rfl) (hpre ⟨19,.data⟩ (by simp) rfl);simp only [sG] at s19;clear ak;refine au ?_ (hK () w1 (fun _ _ => rfl) hW); go_simp; rfl
       | 21,ho =>
        injection ho with ho; subst ho;clear ak;refine dK (f:=6) (args:=#[]) ?_ (HAW.out w1 hW) ?_
        . go_simp
        rintro e w2 ⟨rfl,hc2⟩;exact ⟨_,rfl,hK () w2 (fun _ _ => rfl) (hW.trans hc2 (by simp))⟩
       | 22,ho =>
        injection ho with ho; subst ho;have s20:=aF ak 112 20 (by kernel_rfl) (hpre ⟨20,.data⟩ (by simp) rfl);have s21:=aF ak 113 21 (by kernel_rfl) (hpre ⟨21,.data⟩ (by simp) rfl);simp only [sG] at s20 s21;clear ak;refine au ?_ (hK () w1 (fun _ _ => rfl) hW); go_simp; rfl
       | 23,ho =>
        injection ho with ho; subst ho;have s22:=aF ak 114 22 (by kernel_rfl) (hpre ⟨22,.data⟩ (by simp) rfl);simp only [sG] at s22;clear ak;refine au ?_ (hK () w1 (fun _ _ => rfl) hW); go_simp; rfl
       | _ + 24,ho => cases ho
      case fin =>
       intro γ w2 hW;have HW:=hide (show ah (w6.alloc (.cells #[.bool true,.bool true,.int .i64 (-1),.int .i64 κ] 39)) w2 [] from hW);clear hW;rw [fK,dM,eP];simp only [List.map_cons,List.map_nil];rw [anm];simp only [sG];go_wp2;go_ret;exact ⟨rfl,T_.out.trans HW.out (by simp)⟩
end Go.Proofs.YtnkmmaijigihpaaGreatDoor
