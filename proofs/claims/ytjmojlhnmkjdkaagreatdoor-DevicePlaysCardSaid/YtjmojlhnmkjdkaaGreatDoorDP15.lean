/- Texts of this claim, side by side. -/
import Derived.Test.YtjmojlhnmkjdkaaGreatDoorCoreCD
import Derived.StillTailTactics
import Derived.Deep.Cut
import Derived.Test.YtjmojlhnmkjdkaaGreatDoorDP8
set_option linter.unusedVariables false
set_option maxRecDepth 100000
set_option maxHeartbeats 8000000
namespace Go.Proofs.YtjmojlhnmkjdkaaGreatDoor
section
open Go Go.RowKit Go.Deep Go.Maps Xi
attribute [local go_sem] Oper.semAt_some
def BZ (ia c b:Nat) (op ra rb x:Int):Nat->Value
 | 0=>.pointer (some ⟨ia,0,none⟩)
 | 1=>.int .i64 op
 | 2=>.int .i32 ra
 | 3=>.pointer (some ⟨c,0,none⟩)
 | 4=>.pointer (some ⟨ia,3,none⟩)
 | 5=>.int .i64 b
 | 6=>.pointer (some ⟨c,0,none⟩)
 | 7=>.pointer (some ⟨c,2,none⟩)
 | 8=>.pointer (some ⟨c,2+b,none⟩)
 | 9=>.int .i32 rb
 | 10=>.tuple #[.int .i32 x,.bool true]
 | 11=>.tuple #[.int .i32 x,.bool true]
 | 12=>.int .i32 x
 | 13=>.bool true
 | 14=>.int .i32 x
 | 15=>.bool true
 | _=>undef
theorem aqk(v:Nat->Value)(t0 t1 t2 t3 t4 t5 t6 t7 t8 t9 t10 t11 t12 t13 t14 t15 t16 t17 t18 t19 t20 t21 t22 t23 t24 t25 t26 t27 t28 t29 t30 t31 t32 t33 t34 t35 t36 t37 t38 t39 t40 t41 t42 t43 t44 t45 t46 t47 t48 t49 t50 t51 t52 t53 t54 t55 t56 t57 t58 t59 t60 t61 t62 t63 t64 t65 t66 t67 t68 t69 t70 t71 t72 t73 t74 t75 t76 t77 t78 t79 t80 t81 t82 t83 t84 t85 t86 t87 t88 t89 t90 t91 t92 t93 t94 t95 t96 t97 t98 t99 t100 t101 t102 t103 t104 t105:Value):oK v (some 22::some 23::some 24::some 25::some 26::some 27::some 28::some 29::some 30::some 31::some 32::some 21::some 33::some 34::some 5::some 6::[]) 0 (t0::t1::t2::t3::t4::t5::t6::t7::t8::t9::t10::t11::t12::t13::t14::t15::t16::t17::t18::t19::t20::t21::t22::t23::t24::t25::t26::t27::t28::t29::t30::t31::t32::t33::t34::t35::t36::t37::t38::t39::t40::t41::t42::t43::t44::t45::t46::t47::t48::t49::t50::t51::t52::t53::t54::t55::t56::t57::t58::t59::t60::t61::t62::t63::t64::t65::t66::t67::t68::t69::t70::t71::t72::t73::t74::t75::t76::t77::t78::t79::t80::t81::t82::t83::t84::t85::t86::t87::t88::t89::t90::t91::t92::t93::t94::t95::t96::t97::t98::t99::t100::t101::t102::t103::t104::t105::[])=(t0::t1::t2::t3::t4::v 14::v 15::t7::t8::t9::t10::t11::t12::t13::t14::t15::t16::t17::t18::t19::t20::v 11::v 0::v 1::v 2::v 3::v 4::v 5::v 6::v 7::v 8::v 9::v 10::v 12::v 13::t35::t36::t37::t38::t39::t40::t41::t42::t43::t44::t45::t46::t47::t48::t49::t50::t51::t52::t53::t54::t55::t56::t57::t58::t59::t60::t61::t62::t63::t64::t65::t66::t67::t68::t69::t70::t71::t72::t73::t74::t75::t76::t77::t78::t79::t80::t81::t82::t83::t84::t85::t86::t87::t88::t89::t90::t91::t92::t93::t94::t95::t96::t97::t98::t99::t100::t101::t102::t103::t104::t105::[]):=by kernel_rfl
theorem wG.aj{w w':World}{D:List Nat}(h:wG w)(hc:ah w w' D)(hl:3<w.heap.size)(hD:3∉D):wG w':=by
 have h' : w.var? Tryz.prog "astrolabe/ops.costs" = some _ := h;show w'.var? Tryz.prog "astrolabe/ops.costs" = some _;unfold World.var? at h' ⊢;rw [show Tryz.prog.globalNamed "astrolabe/ops.costs" = some 3 by kernel_rfl] at h' ⊢;simp only [Option.bind_some] at h' ⊢;rw [hc.block _ hl hD]; exact h'
theorem SQ(op x:Int)(w:World)(hc:wG w)(h22:op≠22)(h23:op≠23):Calls Tryz.prog 207 #[.int .i64 op,.int .i32 x] w fun e w'=>e=.returned (.int .i64 (sJ op))/\w=w':=by
 have hcc:=zn op w hc;have x1:(op==22)=false:=beq_eq_false_iff_ne.2 h22;have x2:(op==23)=false:=beq_eq_false_iff_ne.2 h23;clear h22 h23 hc;generalize sJ op=z at *;go_enter Tryz.func207,Tryz.ntmps207
 go_wp2_with fail
 go_at_call 263;refine hcc.mono ?_;rintro e w1 ⟨rfl,rfl⟩;go_wp2;go_ret;exact⟨rfl,rfl⟩
theorem aiO{w:World}{c:Nat}{bp cv mv:Value}{code:List (aW×Bool)}{s:CS}(h:CB w c bp cv mv code s)(op x cost:Int)(d a b:Nat)(hop:op<=30)(hd:d<32)(ha:a<32)(hb:b<32)(hm:s.marks.length<=2000000)
 (hdo:∀ W,Calls Tryz.prog 204 #[.int .i64 op,.int .i32 (lN s a),.int .i32 (lN s b)] W fun e w'=>e=.returned (.tuple #[.int .i32 x,.bool true])/\ah W w' [])
 (hco:∀ W,wG W->Calls Tryz.prog 207 #[.int .i64 op,.int .i32 (lN s a)] W fun e w'=>e=.returned (.int .i64 cost)/\W=w') (hct:wG w) (hgl:3<w.heap.size) (hgf:3∉gB c cv mv) :
 Calls Tryz.prog 131 #[.pointer (some ⟨c,0,none⟩),bD ⟨op,d,a,b,0⟩] w fun e w'=>(∃ v,e=.returned v)/\gG (Wj (wO s d x) cost) c bp cv mv code w w':=by
 have H:=hide h;have HM:=hide hm;have hca:=h.blk.cell' (nR h.reg a ha);have hcb:=h.blk.cell' (nR h.reg b hb);have hlt:=h.blk.lt;have ha2:(a:Int)<32:=by omega
 have hb2:(b:Int)<32:=by omega
 have ay3:decide (op<=30)=true:=decide_eq_true hop;have HCT:=hide hct;have N9:=hide hgl;have Wp:=hide hgf;have fG:Tryz.prog.follows .mixedOrders=true:=by kernel_rfl
 replace fG:=hide fG;unfold lN at hdo hco;generalize s.regs.getD a 0=ra at *;generalize s.regs.getD b 0=rb at *;clear h hm hct hgl hgf hop;unfold bD;go_enter Tryz.func131,Tryz.ntmps131
 go_wp2;go_quiet (fail)
 have hc0:ah w ((w.alloc (.cells #[.int .i64 op,.int .i64 d,.int .i64 a,.int .i64 b,.int .i64 0] 126)).drewN nq) []:=((ah.refl w []).alloc _).drewN nq;have hb5:aC ((w.alloc (.cells #[.int .i64 op,.int .i64 d,.int .i64 a,.int .i64 b,.int .i64 0] 126)).drewN nq) w.heap.size 126 [.int .i64 op,.int .i64 d,.int .i64 a,.int .i64 b,.int .i64 0]:=(aC.new w 126 [.int .i64 op,.int .i64 d,.int .i64 a,.int .i64 b,.int .i64 0]).drewN nq;go_upto_region 4 with(fail)
 generalize (w.alloc (.cells #[.int .i64 op,.int .i64 d,.int .i64 a,.int .i64 b,.int .i64 0] 126)).drewN nq=w0 at *;have cb:=hc0.cell hcb (by simp);have i0:w0.cell? ⟨w.heap.size,0,none⟩=some (.int .i64 op):=hb5.cell' (i:=0) rfl;have i1:w0.cell? ⟨w.heap.size,1,none⟩=some (.int .i64 d):=hb5.cell' (i:=1) rfl;have i3:w0.cell? ⟨w.heap.size,3,none⟩=some (.int .i64 b):=hb5.cell' (i:=3) rfl;have mg:=hide hc0;have jS:=hide hb5;clear hca hcb hc0 hb5;have jS:=hide jS.out;have HIA:Hid (∀ k,k<w.heap.size->k≠w.heap.size):=hide (fun k h e=>by omega);obtain⟨ia,hia⟩:∃ ia,ia=w.heap.size:=⟨_,rfl⟩
 have aql:=hide hia;rw [<- hia] at i0 i1 i3 jS ⊢;clear hia;refine iC fG.out _ _ (fun _=>BZ ia c b op ra rb x) (fun(_:Unit) L w'=>ah w0 w' []) () (by kernel_rfl) [] (by kernel_rfl) (fun p hp γ=>by simp at hp) (by kernel_rfl) ?step ?start ?fin ?ext
 case start=>exact(ah.refl w0 []).drew
 case ext=>exact fun γ L L' w' h hw=>hw
 case step =>
  intro i o ho L av w1 γ hdn ak hW hL hpre K Q hK
  match i,ho with
  | 0,ho =>
   injection ho with ho; subst ho;have b3:av.tmps.getD 3 undef=.pointer (some ⟨ia,0,none⟩):=fM ak 3 (by kernel_rfl);clear ak;refine au ?_ (hK () w1 (fun _ _=>rfl) hW); go_simp; rfl
  | 1,ho =>
   injection ho with ho; subst ho;have s0:=aJ ak 22 0 (by kernel_rfl) (hpre ⟨0,.data⟩ (by simp) rfl);simp only [BZ] at s0;clear ak;have y:=hW.cell i0 (by simp);refine au ?_ (hK () w1 (fun _ _=>rfl) hW); go_simp; rfl
  | 2,ho =>
   injection ho with ho; subst ho;have b4:av.tmps.getD 4 undef=.int .i32 ra:=fM ak 4 (by kernel_rfl);clear ak;refine au ?_ (hK () w1 (fun _ _=>rfl) hW); go_simp; rfl
  | 3,ho =>
   injection ho with ho; subst ho;have b0:av.tmps.getD 0 undef=.pointer (some ⟨c,0,none⟩):=fM ak 0 (by kernel_rfl);clear ak;refine au ?_ (hK () w1 (fun _ _=>rfl) hW); go_simp; rfl
  | 4,ho =>
   injection ho with ho; subst ho;have b3:av.tmps.getD 3 undef=.pointer (some ⟨ia,0,none⟩):=fM ak 3 (by kernel_rfl);clear ak;refine au ?_ (hK () w1 (fun _ _=>rfl) hW); go_simp; rfl
  | 5,ho =>
   injection ho with ho; subst ho;have s4:=aJ ak 26 4 (by kernel_rfl) (hpre ⟨4,.data⟩ (by simp) rfl);simp only [BZ] at s4;clear ak;have y:=hW.cell i3 (by simp);refine au ?_ (hK () w1 (fun _ _=>rfl) hW); go_simp; rfl
  | 6,ho =>
   injection ho with ho; subst ho;have s3:=aJ ak 25 3 (by kernel_rfl) (hpre ⟨3,.data⟩ (by simp) rfl);simp only [BZ] at s3;clear ak;refine au ?_ (hK () w1 (fun _ _=>rfl) hW); go_simp; rfl
  | 7,ho =>
   injection ho with ho; subst ho;have s6:=aJ ak 28 6 (by kernel_rfl) (hpre ⟨6,.data⟩ (by simp) rfl);simp only [BZ] at s6;clear ak;refine au ?_ (hK () w1 (fun _ _=>rfl) hW); go_simp; rfl
  | 8,ho =>
   injection ho with ho; subst ho;have s7:=aJ ak 29 7 (by kernel_rfl) (hpre ⟨7,.data⟩ (by simp) rfl);have s5:=aJ ak 27 5 (by kernel_rfl) (hpre ⟨5,.data⟩ (by simp) rfl);simp only [BZ] at s7 s5;clear ak;refine au ?_ (hK () w1 (fun _ _=>rfl) hW); go_simp; rfl
  | 9,ho =>
   injection ho with ho; subst ho;have s8:=aJ ak 30 8 (by kernel_rfl) (hpre ⟨8,.data⟩ (by simp) rfl);simp only [BZ] at s8;clear ak;have y:=hW.cell cb (by simp);refine au ?_ (hK () w1 (fun _ _=>rfl) hW); go_simp; rfl
  | 10,ho =>
   injection ho with ho; subst ho;have s1:=aJ ak 23 1 (by kernel_rfl) (hpre ⟨1,.data⟩ (by simp) rfl);have s2:=aJ ak 24 2 (by kernel_rfl) (hpre ⟨2,.data⟩ (by simp) rfl);have s9:=aJ ak 31 9 (by kernel_rfl) (hpre ⟨9,.data⟩ (by simp) rfl);simp only [BZ] at s1 s2 s9;clear ak;refine gU (f:=204) (args:=#[.int .i64 op,.int .i32 ra,.int .i32 rb]) ?_ (hdo w1) ?_
   . go_simp
   . rintro e w2 ⟨rfl,hc⟩
     exact⟨_,rfl,hK () w2 (fun _ _=>rfl) (hW.trans hc (by simp))⟩
  | 11,ho =>
   injection ho with ho; subst ho;have s10:=aJ ak 32 10 (by kernel_rfl) (hpre ⟨10,.data⟩ (by simp) rfl);simp only [BZ] at s10;clear ak;refine au ?_ (hK () w1 (fun _ _=>rfl) hW); go_simp; rfl
  | 12,ho =>
   injection ho with ho; subst ho;have s11:=aJ ak 21 11 (by kernel_rfl) (hpre ⟨11,.data⟩ (by simp) rfl);simp only [BZ] at s11;clear ak;refine au ?_ (hK () w1 (fun _ _=>rfl) hW); go_simp; rfl
  | 13,ho =>
   injection ho with ho; subst ho;have s11:=aJ ak 21 11 (by kernel_rfl) (hpre ⟨11,.data⟩ (by simp) rfl);simp only [BZ] at s11;clear ak;refine au ?_ (hK () w1 (fun _ _=>rfl) hW); go_simp; rfl
  | 14,ho =>
   injection ho with ho; subst ho;have s12:=aJ ak 33 12 (by kernel_rfl) (hpre ⟨12,.data⟩ (by simp) rfl);simp only [BZ] at s12;clear ak;refine au ?_ (hK () w1 (fun _ _=>rfl) hW); go_simp; rfl
  | 15,ho =>
   injection ho with ho; subst ho;have s13:=aJ ak 34 13 (by kernel_rfl) (hpre ⟨13,.data⟩ (by simp) rfl);simp only [BZ] at s13;clear ak;refine au ?_ (hK () w1 (fun _ _=>rfl) hW); go_simp; rfl
  | _+16,ho=>cases ho
 case fin =>
 intro γ w1 hW;rw [jc,gy,iM];simp only [List.map_cons,List.map_nil];rw [aqk];simp only [BZ];have hc1:ah w0 w1 []:=hW;have aiP:ah w w1 []:=mg.out.trans hc1 (by simp);have hb1:=jS.out.aj hc1 (by simp);have j0:w1.cell? ⟨ia,0,none⟩=some (.int .i64 op):=hb1.cell' (i:=0) rfl;have j1:w1.cell? ⟨ia,1,none⟩=some (.int .i64 d):=hb1.cell' (i:=1) rfl;have h1:=H.out.aj aiP (by simp);have HP:=hide (H_ h1 d hd x);have bZ:=hide aiP;have HB1:=hide hb1
 have HN:Hid (ia∉[c]++mv.ownBlock.toList):=hide (fun hm=>by
  simp only [List.mem_append,List.mem_singleton,Option.mem_toList] at hm;rcases hm with hm | hm
  . have:=H.out.blk.lt; have:=aql.out; omega
  . have:=(H.out.yH.lt _ hm).2; have:=aql.out; omega)
 clear hW hc1 aiP hb1 h1 hdo i0 i1 i3 cb mg jS;go_wp2_with fail
 go_at_call 205;refine HP.out.mono ?_;rintro e w2 ⟨⟨v,rfl⟩,hc2,mv1,hm1,hb2⟩;have aqm:wG w2:=(HCT.out.aj bZ.out N9.out (by simp)).aj hc2 (by have:=N9.out; have:=bZ.out.size; omega) (fun hm=>Wp.out (by simp only [gB,List.mem_append] at hm ⊢; exact hm.elim .inl (fun h=>.inr (.inr h))));have hk0:w2.cell? ⟨ia,0,none⟩=some (.int .i64 op):=(HB1.out.aj hc2 HN.out).cell' (i:=0) rfl;have aw8:=hco w2 aqm;have HO:=hide (LV hb2 cost (by rw [Fg]; exact HM.out));have HC2:=hide hc2;have Va:=hide hm1;clear hc2 hm1 hb2 HP aqm hco j0 j1;go_wp2_with fail
 go_at_call 207;refine aw8.mono ?_;rintro e w3 ⟨rfl,rfl⟩;go_wp2_with fail
 go_at_call 206;refine HO.out.mono ?_;rintro e w3 ⟨⟨v2,rfl⟩,hp3⟩;have U7:=hide hp3;clear hp3;go_wp2;refine bodyPost_end (results_none rfl _ _ _) rfl ?_;exact⟨⟨_,rfl⟩,gG.alloc bZ.out (gG.step HC2.out Va.out U7.out)⟩
end

section
open Go.RowKit Go.Deep Go.Maps
attribute [local go_sem] Oper.semAt_some
theorem afx{w:World}{c:Nat}{bp cv mv:Value}{code:List (aW×Bool)}{s:CS}(h:CB w c bp cv mv code s)(d a:Nat)(n:Int)(hd:d<32)(ha:a<32)(hm:s.marks.length<=2000000) :
 Calls Tryz.prog 209 #[.pointer (some ⟨c,0,none⟩),bD ⟨38,d,a,0,n⟩] w fun e w'=>(∃ v,e=.returned v)/\gG (DX s n (decide (lN s d<lN s a))) c bp cv mv code w w':=by
 have H:=hide h;have HM:=hide hm;have hca:=h.blk.cell' (nR h.reg a ha);have hcd:=h.blk.cell' (nR h.reg d hd);have hlt:=h.blk.lt;have ha2:(a:Int)<32:=by omega
 have hd2:(d:Int)<32:=by omega
 unfold lN;generalize s.regs.getD a 0=ra at *;generalize s.regs.getD d 0=rd at *;clear h hm;unfold bD;go_enter Tryz.func209,Tryz.ntmps209
 go_wp2;go_quiet (fail)
 have hc0:ah w ((w.alloc (.cells #[.int .i64 38,.int .i64 d,.int .i64 a,.int .i64 0,.int .i64 n] 126)).drewN nq) []:=((ah.refl w []).alloc _).drewN nq;have HB:=hide (Wn (H.out.aj hc0 (by simp)) ⟨38,d,a,0,n⟩ (decide (rd<ra)) HM.out);have mg:=hide hc0;unfold bD at HB;clear hc0;go_wp2_with fail
 go_at_call 265;refine HB.out.mono ?_;rintro e w1 ⟨⟨v,rfl⟩,hp⟩;have HP:=hide hp;clear hp HB;go_wp2;refine bodyPost_end (results_none rfl _ _ _) rfl ?_;exact⟨⟨_,rfl⟩,gG.alloc mg.out HP.out⟩
theorem aiQ{w:World}{c:Nat}{bp cv mv:Value}{code:List (aW×Bool)}{s:CS}(h:CB w c bp cv mv code s)(d a:Nat)(n:Int)(hd:d<32)(ha:a<32)(hm:s.marks.length<=2000000) :
 Calls Tryz.prog 131 #[.pointer (some ⟨c,0,none⟩),bD ⟨38,d,a,0,n⟩] w fun e w'=>(∃ v,e=.returned v)/\gG (DX s n (decide (lN s d<lN s a))) c bp cv mv code w w':=by
 have H:=hide h;have HM:=hide hm;have hca:=h.blk.cell' (nR h.reg a ha);have hlt:=h.blk.lt;have ha2:(a:Int)<32:=by omega
 generalize s.regs.getD a 0=ra at *;clear h hm;unfold bD;go_enter Tryz.func131,Tryz.ntmps131
 go_wp2;go_quiet (fail)
 have hc0:ah w ((w.alloc (.cells #[.int .i64 38,.int .i64 d,.int .i64 a,.int .i64 0,.int .i64 n] 126)).drewN nq) []:=((ah.refl w []).alloc _).drewN nq;have HB:=hide (afx (H.out.aj hc0 (by simp)) d a n hd ha HM.out);have mg:=hide hc0;unfold bD at HB;clear hc0;go_wp2_with fail
 go_at_call 209;refine HB.out.mono ?_;rintro e w1 ⟨⟨v,rfl⟩,hp⟩;have HP:=hide hp;clear hp HB;go_wp2;refine bodyPost_end (results_none rfl _ _ _) rfl ?_;exact⟨⟨_,rfl⟩,gG.alloc mg.out HP.out⟩
end

section
open Go Go.RowKit Go.Deep Go.Maps Xi
attribute [local go_sem] Oper.semAt_some
def Dk (ia c:Nat) (pc:Int) (g:Value):Nat->Value
 | 0=>.pointer (some ⟨c,0,none⟩)
 | 1=>.pointer (some ⟨c,0,none⟩)
 | 2=>.pointer (some ⟨c,0,none⟩)
 | 3=>.pointer (some ⟨c,34,none⟩)
 | 4=>.int .i64 pc
 | 5=>.pointer (some ⟨ia,0,none⟩)
 | 6=>.int .i64 43
 | 7=>.int .i64 1
 | 8=>g
 | _=>undef
theorem aqn(ia c:Nat)(pc:Int)(g0 g1:Value):∀ i,i≠8->Dk ia c pc g0 i=Dk ia c pc g1 i
 | 0,_=>rfl
 | 1,_=>rfl
 | 2,_=>rfl
 | 3,_=>rfl
 | 4,_=>rfl
 | 5,_=>rfl
 | 6,_=>rfl
 | 7,_=>rfl
 | 8,h=>absurd rfl h
 | _+9,_=>rfl
theorem am2(v:Nat->Value)(t0 t1 t2 t3 t4 t5 t6 t7 t8 t9 t10 t11 t12 t13 t14 t15 t16 t17 t18 t19 t20 t21 t22 t23 t24 t25 t26 t27 t28 t29 t30 t31 t32 t33 t34 t35 t36 t37 t38 t39 t40 t41 t42 t43 t44 t45 t46 t47 t48 t49 t50 t51 t52 t53 t54 t55 t56 t57 t58 t59 t60 t61 t62 t63 t64 t65 t66 t67 t68 t69 t70 t71 t72 t73 t74 t75 t76 t77 t78 t79 t80 t81 t82 t83 t84 t85 t86 t87 t88 t89 t90 t91 t92 t93 t94:Value):oK v (some 78::some 79::some 80::some 81::some 82::some 83::some 84::some 85::some 86::[]) 0 (t0::t1::t2::t3::t4::t5::t6::t7::t8::t9::t10::t11::t12::t13::t14::t15::t16::t17::t18::t19::t20::t21::t22::t23::t24::t25::t26::t27::t28::t29::t30::t31::t32::t33::t34::t35::t36::t37::t38::t39::t40::t41::t42::t43::t44::t45::t46::t47::t48::t49::t50::t51::t52::t53::t54::t55::t56::t57::t58::t59::t60::t61::t62::t63::t64::t65::t66::t67::t68::t69::t70::t71::t72::t73::t74::t75::t76::t77::t78::t79::t80::t81::t82::t83::t84::t85::t86::t87::t88::t89::t90::t91::t92::t93::t94::[])=(t0::t1::t2::t3::t4::t5::t6::t7::t8::t9::t10::t11::t12::t13::t14::t15::t16::t17::t18::t19::t20::t21::t22::t23::t24::t25::t26::t27::t28::t29::t30::t31::t32::t33::t34::t35::t36::t37::t38::t39::t40::t41::t42::t43::t44::t45::t46::t47::t48::t49::t50::t51::t52::t53::t54::t55::t56::t57::t58::t59::t60::t61::t62::t63::t64::t65::t66::t67::t68::t69::t70::t71::t72::t73::t74::t75::t76::t77::v 0::v 1::v 2::v 3::v 4::v 5::v 6::v 7::v 8::t87::t88::t89::t90::t91::t92::t93::t94::[]):=by kernel_rfl
theorem aqo:sJ 43=1:=by kernel_rfl
def WH(w0:World)(s1:CS)(c:Nat)(bp cv mv:Value)(code:List (aW×Bool))(L:Nat->Bool)(w:World):Prop:=bif L 8 then gG s1 c bp cv mv code w0 w else ah w0 w []
section
variable {w0 w:World} {s1:CS} {c:Nat} {bp cv mv:Value} {code:List (aW×Bool)} {L L':Nat->Bool}
theorem WH.low(h:WH w0 s1 c bp cv mv code L w)(h8:L 8=false):ah w0 w []:=by unfold WH at h; rw [h8] at h; exact h
theorem WH.ext(h:WH w0 s1 c bp cv mv code L w)(e:L 8=L' 8):WH w0 s1 c bp cv mv code L' w:=by unfold WH at h ⊢; rw [<- e]; exact h
theorem WH.keep{i:Nat}(h:WH w0 s1 c bp cv mv code L w)(hi:8≠i):WH w0 s1 c bp cv mv code (fun j=>if j=i then true else L j) w:=h.ext (by simp only [if_neg hi])
theorem WH.high{w2:World}(h:ah w0 w [])(hp:gG s1 c bp cv mv code w w2):WH w0 s1 c bp cv mv code (fun j=>if j=8 then true else L j) w2:=by
 unfold WH;simp only [if_true,cond_true];exact gG.alloc h hp
end
def N_ (s:CS):CS:={ uZ s s.pc (-1) 1 with st:=1 }
theorem aco{w:World}{c:Nat}{bp cv mv:Value}{code:List (aW×Bool)}{s:CS}(h:CB w c bp cv mv code s)(hm:s.marks.length<=2000000)(hct:wG w)(hgl:3<w.heap.size) :
 Calls Tryz.prog 209 #[.pointer (some ⟨c,0,none⟩),bD ⟨43,0,0,0,0⟩] w fun e w'=>(∃ v,e=.returned v)/\gG (N_ s) c bp cv mv code w w':=by
 have H:=hide h;have HM:=hide hm;have aw9:=hide hct;have aqp:=hide hgl;have hca:=h.blk.cell' (nR h.reg 0 (by decide));have hpc:=h.blk.cell' (@oP bp cv mv s h.reg).1;have hlt:=h.blk.lt;have fG:Tryz.prog.follows .mixedOrders=true:=by kernel_rfl
 replace fG:=hide fG;generalize s.regs.getD 0 0=ra at *;clear h hm hct hgl;unfold bD;go_enter Tryz.func209,Tryz.ntmps209
 go_wp2;go_quiet (fail)
 have hc0:ah w ((w.alloc (.cells #[.int .i64 43,.int .i64 0,.int .i64 0,.int .i64 0,.int .i64 0] 126)).drewN nq) []:=((ah.refl w []).alloc _).drewN nq;have hb5:aC ((w.alloc (.cells #[.int .i64 43,.int .i64 0,.int .i64 0,.int .i64 0,.int .i64 0] 126)).drewN nq) w.heap.size 126 [.int .i64 43,.int .i64 0,.int .i64 0,.int .i64 0,.int .i64 0]:=(aC.new w 126 [.int .i64 43,.int .i64 0,.int .i64 0,.int .i64 0,.int .i64 0]).drewN nq;go_upto_region 16 with(fail)
 generalize (w.alloc (.cells #[.int .i64 43,.int .i64 0,.int .i64 0,.int .i64 0,.int .i64 0] 126)).drewN nq=w0 at *;have cpc:=hc0.cell hpc (by simp);have i0:w0.cell? ⟨w.heap.size,0,none⟩=some (.int .i64 43):=hb5.cell' (i:=0) rfl;have HC:=hide (H.out.aj hc0 (by simp));have HCT:=hide (aw9.out.aj hc0 aqp.out (by simp));have N9:Hid (3<w0.heap.size):=hide (Nat.lt_of_lt_of_le aqp.out hc0.size);have mg:=hide hc0;generalize hpcq:s.pc=pc at *;generalize w.heap.size=ia at *;clear hb5 hc0;refine iC fG.out _ _ (fun g=>Dk ia c pc g) (fun(g:Value) L w'=>WH w0 (uZ s pc (-1) 1) c bp cv mv code L w') undef (by kernel_rfl) [] (by kernel_rfl) (fun p hp γ=>by simp at hp) (by kernel_rfl) ?step ?start ?fin ?ext
 case start=>exact(ah.refl w0 []).drew
 case ext=>exact fun γ L L' w' h hw=>hw.ext (h 8 (by decide))
 case step =>
  intro i o ho L av w1 γ hdn ak hW hL hpre K Q hK
  match i,ho with
  | 0,ho =>
   injection ho with ho; subst ho;have b0:av.tmps.getD 0 undef=.pointer (some ⟨c,0,none⟩):=fM ak 0 (by kernel_rfl);clear ak;refine au ?_ (hK γ w1 (fun _ _=>rfl) (hW.keep (by decide))); go_simp; rfl
  | 1,ho =>
   injection ho with ho; subst ho;have b0:av.tmps.getD 0 undef=.pointer (some ⟨c,0,none⟩):=fM ak 0 (by kernel_rfl);clear ak;refine au ?_ (hK γ w1 (fun _ _=>rfl) (hW.keep (by decide))); go_simp; rfl
  | 2,ho =>
   injection ho with ho; subst ho;have s1:=aJ ak 79 1 (by kernel_rfl) (hpre ⟨1,.data⟩ (by simp) rfl);simp only [Dk] at s1;clear ak;refine au ?_ (hK γ w1 (fun _ _=>rfl) (hW.keep (by decide))); go_simp; rfl
  | 3,ho =>
   injection ho with ho; subst ho;have s2:=aJ ak 80 2 (by kernel_rfl) (hpre ⟨2,.data⟩ (by simp) rfl);simp only [Dk] at s2;clear ak;refine au ?_ (hK γ w1 (fun _ _=>rfl) (hW.keep (by decide))); go_simp; rfl
  | 4,ho =>
   injection ho with ho; subst ho;have s3:=aJ ak 81 3 (by kernel_rfl) (hpre ⟨3,.data⟩ (by simp) rfl);simp only [Dk] at s3;clear ak
   have l8:L 8=false:=by
    cases h:L 8 with
    | false=>rfl
    | true =>
     have h4:L 4=true:=hdn 8 _ rfl h ⟨4,.data⟩ (by simp) rfl;rw [hL] at h4; cases h4
   have y:=(WH.low hW l8).cell cpc (by simp);refine au ?_ (hK γ w1 (fun _ _=>rfl) (hW.keep (by decide))); go_simp; rfl
  | 5,ho =>
   injection ho with ho; subst ho;have b3:av.tmps.getD 3 undef=.pointer (some ⟨ia,0,none⟩):=fM ak 3 (by kernel_rfl);clear ak;refine au ?_ (hK γ w1 (fun _ _=>rfl) (hW.keep (by decide))); go_simp; rfl
  | 6,ho =>
   injection ho with ho; subst ho;have s5:=aJ ak 83 5 (by kernel_rfl) (hpre ⟨5,.data⟩ (by simp) rfl);simp only [Dk] at s5;clear ak
   have l8:L 8=false:=by
    cases h:L 8 with
    | false=>rfl
    | true =>
     have h7:L 7=true:=hdn 8 _ rfl h ⟨7,.data⟩ (by simp) rfl;have h6:L 6=true:=hdn 7 _ rfl h7 ⟨6,.data⟩ (by simp) rfl;rw [hL] at h6; cases h6
   have y:=(WH.low hW l8).cell i0 (by simp);refine au ?_ (hK γ w1 (fun _ _=>rfl) (hW.keep (by decide))); go_simp; rfl
  | 7,ho =>
   injection ho with ho; subst ho;have s6:=aJ ak 84 6 (by kernel_rfl) (hpre ⟨6,.data⟩ (by simp) rfl);simp only [Dk] at s6;clear ak
   have l8:L 8=false:=by
    cases h:L 8 with
    | false=>rfl
    | true =>
     have h7:L 7=true:=hdn 8 _ rfl h ⟨7,.data⟩ (by simp) rfl;rw [hL] at h7; cases h7
   have hc:=zn 43 w1 (HCT.out.aj (WH.low hW l8) N9.out (by simp));rw [aqo] at hc;refine gU (f:=263) (args:=#[.int .i64 43]) ?_ hc ?_
   . go_simp
   . rintro e w2 ⟨rfl,rfl⟩
     exact⟨_,rfl,hK γ _ (fun _ _=>rfl) (hW.keep (by decide))⟩
  | 8,ho =>
   injection ho with ho; subst ho;have s0:=aJ ak 78 0 (by kernel_rfl) (hpre ⟨0,.data⟩ (by simp) rfl);have s4:=aJ ak 82 4 (by kernel_rfl) (hpre ⟨4,.data⟩ (by simp) rfl);have s7:=aJ ak 85 7 (by kernel_rfl) (hpre ⟨7,.data⟩ (by simp) rfl);simp only [Dk] at s0 s4 s7;clear ak;refine gU (f:=262) (args:=#[.pointer (some ⟨c,0,none⟩),.int .i64 pc,.int .i64 (-1),.int .i64 1]) ?_ (qU (HC.out.aj (WH.low hW hL) (by simp)) pc (-1) 1 HM.out) ?_
   . go_simp
   . rintro e w2 ⟨⟨v,rfl⟩,hp⟩
     exact⟨v,rfl,hK v w2 (fun jj hjj=>aqn _ _ _ _ _ jj (fun e=>by rw [e,hL] at hjj; cases hjj)) (WH.high (WH.low hW hL) hp)⟩
  | _+9,ho=>cases ho
 case fin =>
 intro γ w1 hW;rw [jc,gy,iM];simp only [List.map_cons,List.map_nil];rw [am2];simp only [Dk];have hp1:gG (uZ s pc (-1) 1) c bp cv mv code w0 w1:=hW;obtain⟨hc1,mv1,hm1,hb1⟩:=hp1;have hst:=hb1.blk.cell' (@oP bp cv mv1 _ hb1.reg).2.1;have hfz:=hb1.blk.frozen 35;have hlt1:=hb1.blk.lt;have bZ:=hide hc1;have Va:=hide hm1;have HB1:=hide hb1;clear hW hc1 hm1 hb1 cpc i0 hca hpc;go_wp2;refine bodyPost_end (results_none rfl _ _ _) rfl ?_;refine⟨⟨_,rfl⟩,gG.alloc mg.out (gG.step bZ.out Va.out ⟨(ah.refl w1 _).setCell _ _ (.inl (by simp)),mv1,.inl rfl,?_⟩)⟩;have hc:ah w1 (w1.setCell ⟨c,35,none⟩ (.int .i64 1)) [c]:=(ah.refl w1 _).setCell _ _ (.inl (by simp));obtain⟨n1,n2,n3⟩:=HB1.out.ne;have hb:=HB1.out.blk.aK 35 (.int .i64 1);rw [aiL HB1.out.reg] at hb;unfold N_;rw [hpcq];exact⟨hb,aH HB1.out.uY hc (fun g hg hm=>by simp at hm; subst hm; exact n1 hg),aH HB1.out.yH hc (fun g hg hm=>by simp at hm; subst hm; exact n2 hg),HB1.out.reg⟩
end

section
open Go.RowKit Go.Deep Go.Maps
attribute [local go_sem] Oper.semAt_some
theorem afy{w:World}{c:Nat}{bp cv mv:Value}{code:List (aW×Bool)}{s:CS}(h:CB w c bp cv mv code s)(hm:s.marks.length<=2000000)(hct:wG w)(hgl:3<w.heap.size) :
 Calls Tryz.prog 131 #[.pointer (some ⟨c,0,none⟩),bD ⟨43,0,0,0,0⟩] w fun e w'=>(∃ v,e=.returned v)/\gG (N_ s) c bp cv mv code w w':=by
 have H:=hide h;have HM:=hide hm;have HCT:=hide hct;have N9:=hide hgl;have hca:=h.blk.cell' (nR h.reg 0 (by decide));have hlt:=h.blk.lt;generalize s.regs.getD 0 0=ra at *;clear h hm hct hgl;unfold bD;go_enter Tryz.func131,Tryz.ntmps131
 go_wp2;go_quiet (fail)
 have hc0:ah w ((w.alloc (.cells #[.int .i64 43,.int .i64 0,.int .i64 0,.int .i64 0,.int .i64 0] 126)).drewN nq) []:=((ah.refl w []).alloc _).drewN nq;have HB:=hide (aco (H.out.aj hc0 (by simp)) HM.out (HCT.out.aj hc0 N9.out (by simp)) (Nat.lt_of_lt_of_le N9.out hc0.size));have mg:=hide hc0;unfold bD at HB;clear hc0;go_wp2_with fail
 go_at_call 209;refine HB.out.mono ?_;rintro e w1 ⟨⟨v,rfl⟩,hp⟩;have HP:=hide hp;clear hp HB;go_wp2;refine bodyPost_end (results_none rfl _ _ _) rfl ?_;exact⟨⟨_,rfl⟩,gG.alloc mg.out HP.out⟩
theorem afz:∀(l:List (aW×Bool)) (k:Nat) (x:aW×Bool),l[k]?=some x->(kG l)[k*6]?=some (.int .i64 x.1.op)/\(kG l)[k*6+1]?=some (.int .i64 x.1.d)/\(kG l)[k*6+2]?=some (.int .i64 x.1.a)/\(kG l)[k*6+3]?=some (.int .i64 x.1.b)/\(kG l)[k*6+4]?=some (.int .i64 x.1.n)/\(kG l)[k*6+5]?=some (.bool x.2)
 | [],k,x,e=>by simp at e
 | y::l,0,x,e=>by simp at e; subst e; exact⟨rfl,rfl,rfl,rfl,rfl,rfl⟩
 | y::l,k+1,x,e=>by
  have:=afz l k x (by simpa using e);have hc:kG (y::l)=(wB y.1++[.bool y.2])++kG l:=rfl;rw [hc,show(k+1)*6=k*6+6 by omega];exact this
theorem mW{w:World}{c:Nat}{b:Addr}{cv mv:Value}{code:List (aW×Bool)}{s:CS}(h:CB w c (.pointer (some b)) cv mv code s):Calls Tryz.prog 66 #[.pointer (some ⟨c,0,none⟩)] w fun e w'=>e=.returned (.bool true)/\w=w':=by
 have c0:=h.blk.cell' (i:=0) rfl;clear h;go_enter Tryz.func66,Tryz.ntmps66
 go_wp2;go_ret;exact⟨rfl,rfl⟩
theorem acp{w:World}{c:Nat}{b:Addr}{cv mv:Value}{code:List (aW×Bool)}{s:CS}(h:CB w c (.pointer (some b)) cv mv code s)(hst:s.st≠0):Calls Tryz.prog 69 #[.pointer (some ⟨c,0,none⟩)] w fun e w'=>e=.returned (.bool false)/\w=w':=by
 have hl:=mW h;have c35:=h.blk.cell' (@oP _ cv mv s h.reg).2.1;have hx:(s.st != 0)=true:=bne_iff_ne.2 hst;generalize s.st=st at *;clear h hst;go_enter Tryz.func69,Tryz.ntmps69
 go_wp2_with (go_at_call 66; refine hl.mono ?_; rintro e w1 ⟨rfl,rfl⟩);go_ret;exact⟨rfl,rfl⟩
end

section
open Go Go.RowKit Go.Deep Go.Maps Xi
attribute [local go_sem] Oper.semAt_some
def DY (c g ln ca k:Nat) (op d a bb n:Int) (g0:Nat):Nat->Value
 | 0=>.pointer (some ⟨c,0,none⟩)
 | 1=>.pointer (some ⟨c,0,none⟩)
 | 2=>.pointer (some ⟨c,1,none⟩)
 | 3=>.slice (some ⟨g,0,none⟩) ln ca
 | 4=>.pointer (some ⟨c,0,none⟩)
 | 5=>.pointer (some ⟨c,0,none⟩)
 | 6=>.pointer (some ⟨c,34,none⟩)
 | 7=>.int .i64 k
 | 8=>.pointer (some ⟨g,k*6,none⟩)
 | 9=>.agg #[.int .i64 op,.int .i64 d,.int .i64 a,.int .i64 bb,.int .i64 n,.bool true]
 | 10=>.pointer (some ⟨g0,0,none⟩)
 | 11=>undef
 | _=>undef
theorem atY(c g ln ca k:Nat)(op d a bb n:Int)(g0 g1:Nat):∀ i,i≠10->DY c g ln ca k op d a bb n g0 i=DY c g ln ca k op d a bb n g1 i
 | 0,_=>rfl
 | 1,_=>rfl
 | 2,_=>rfl
 | 3,_=>rfl
 | 4,_=>rfl
 | 5,_=>rfl
 | 6,_=>rfl
 | 7,_=>rfl
 | 8,_=>rfl
 | 9,_=>rfl
 | 10,h=>absurd rfl h
 | 11,_=>rfl
 | _+12,_=>rfl
theorem aqr(v:Nat->Value)(t0 t1 t2 t3 t4 t5 t6 t7 t8 t9 t10 t11 t12 t13 t14 t15 t16 t17 t18 t19 t20 t21 t22 t23 t24 t25 t26 t27 t28 t29 t30 t31 t32 t33 t34 t35 t36 t37 t38 t39 t40 t41 t42 t43 t44 t45 t46 t47 t48 t49 t50 t51 t52 t53:Value):oK v (some 34::some 35::some 36::some 37::some 38::some 39::some 40::some 41::some 42::some 43::some 3::none::[]) 0 (t0::t1::t2::t3::t4::t5::t6::t7::t8::t9::t10::t11::t12::t13::t14::t15::t16::t17::t18::t19::t20::t21::t22::t23::t24::t25::t26::t27::t28::t29::t30::t31::t32::t33::t34::t35::t36::t37::t38::t39::t40::t41::t42::t43::t44::t45::t46::t47::t48::t49::t50::t51::t52::t53::[])=(t0::t1::t2::v 10::t4::t5::t6::t7::t8::t9::t10::t11::t12::t13::t14::t15::t16::t17::t18::t19::t20::t21::t22::t23::t24::t25::t26::t27::t28::t29::t30::t31::t32::t33::v 0::v 1::v 2::v 3::v 4::v 5::v 6::v 7::v 8::v 9::t44::t45::t46::t47::t48::t49::t50::t51::t52::t53::[]):=by kernel_rfl
def WS(w0:World)(rc:List Value)(g:Nat)(L:Nat->Bool)(w:World):Prop:=ah w0 w []/\(L 10=true->w0.heap.size<=g/\aC w g 130 (bif L 11 then rc else [.int .i64 0,.int .i64 0,.int .i64 0,.int .i64 0,.int .i64 0,.bool false]))
def putRow (w:World) (g:Nat) (op d a bb n:Int):World:=(((((w.setCell ⟨g,0,none⟩ (.int .i64 op)).setCell ⟨g,1,none⟩ (.int .i64 d)).setCell ⟨g,2,none⟩ (.int .i64 a)).setCell ⟨g,3,none⟩ (.int .i64 bb)).setCell ⟨g,4,none⟩ (.int .i64 n)).setCell ⟨g,5,none⟩ (.bool true)
section
variable {w0 w:World} {rc:List Value} {g:Nat} {L L':Nat->Bool}
theorem WS.ext(h:WS w0 rc g L w)(e:L 10=L' 10)(e2:L 11=L' 11):WS w0 rc g L' w:=by unfold WS at h ⊢; rw [<- e,<- e2]; exact h
theorem WS.keep{i:Nat}(h:WS w0 rc g L w)(h1:10≠i)(h2:11≠i):WS w0 rc g (fun j=>if j=i then true else L j) w:=h.ext (by simp only [if_neg h1]) (by simp only [if_neg h2])
theorem WS.new(h:WS w0 rc g L w)(h11:L 11=false):WS w0 rc w.heap.size (fun j=>if j=10 then true else L j) (w.alloc (.cells #[.int .i64 0,.int .i64 0,.int .i64 0,.int .i64 0,.int .i64 0,.bool false] 130)):=by
 refine⟨h.1.alloc _,fun _=>⟨h.1.size,?_⟩⟩;have hb:=aC.new w 130 [.int .i64 0,.int .i64 0,.int .i64 0,.int .i64 0,.int .i64 0,.bool false]
 simpa [h11] using hb
theorem WS.put{op d a bb n:Int}(h:WS w0 [.int .i64 op,.int .i64 d,.int .i64 a,.int .i64 bb,.int .i64 n,.bool true] g L w)(h10:L 10=true)(h11:L 11=false):WS w0 [.int .i64 op,.int .i64 d,.int .i64 a,.int .i64 bb,.int .i64 n,.bool true] g (fun j=>if j=11 then true else L j) (putRow w g op d a bb n):=by
 obtain⟨hz,hb⟩:=h.2 h10;rw [h11] at hb;have hb:=hb;simp only [cond_false] at hb;have hc:ah w (putRow w g op d a bb n) [g]:=((((((ah.refl w _).setCell _ _ (.inl (by simp))).setCell _ _ (.inl (by simp))).setCell _ _ (.inl (by simp))).setCell _ _ (.inl (by simp))).setCell _ _ (.inl (by simp))).setCell _ _ (.inl (by simp));refine⟨h.1.trans hc (fun k hk=>.inr (by simp at hk; omega)),fun _=>⟨hz,?_⟩⟩;unfold putRow
 simpa using (((((hb.aK 0 (.int .i64 op)).aK 1 (.int .i64 d)).aK 2 (.int .i64 a)).aK 3 (.int .i64 bb)).aK 4 (.int .i64 n)).aK 5 (.bool true)
theorem WS.at_(h:WS w0 rc g L w)(h10:L 10=true)(h11:L 11=false):aC w g 130 [.int .i64 0,.int .i64 0,.int .i64 0,.int .i64 0,.int .i64 0,.bool false]:=by
 obtain⟨hz,hb⟩:=h.2 h10;rw [h11] at hb;exact hb
end
theorem acr{w:World}{c:Nat}{b:Addr}{cv mv:Value}{code:List (aW×Bool)}{s:CS}{Q:World->World->Prop}(hQ:∀ W W' w',ah W W' []->Q W' w'->Q W w')(h:CB w c (.pointer (some b)) cv mv code s)(k:Nat)(hk:s.pc=k)(i:aW)(hc:code[k]?=some (i,true))(hst:s.st=0)(hl2:code.length<=100000)
 (hdo:∀ W',ah w W' []->Calls Tryz.prog 131 #[.pointer (some ⟨c,0,none⟩),bD i] W' fun e w'=>(∃ v,e=.returned v)/\Q W' w') :
 Calls Tryz.prog 69 #[.pointer (some ⟨c,0,none⟩)] w fun e w'=>e=.returned (.bool true)/\Q w w':=by
 have hl:=mW h;have kM:=hide hdo;have fG:Tryz.prog.follows .mixedOrders=true:=by kernel_rfl
 replace fG:=hide fG;obtain⟨c34,c35,_,_⟩:=@oP (.pointer (some b)) cv mv s h.reg;replace c34:=h.blk.cell' c34;replace c35:=h.blk.cell' c35;rw [hk] at c34;rw [hst] at c35;have hkl:k<code.length:=(List.getElem?_eq_some_iff.1 hc).1;have c1:w.cell? ⟨c,1,none⟩=some cv:=h.blk.cell' rfl;obtain⟨A,ca,hcv,hx⟩:=oH h.uY;subst hcv;obtain⟨g,rfl,hgl,hgb,hcells⟩:=hx (by omega);obtain⟨op,d,a,bb,n⟩:=i;obtain⟨q0,q1,q2,q3,q4,q5⟩:=afz code k _ hc;have e0:=hcells _ _ q0;have e1:=hcells _ _ q1;have e2:=hcells _ _ q2;have e3:=hcells _ _ q3;have e4:=hcells _ _ q4;have e5:=hcells _ _ q5;have hkk:decide ((code.length:Int)<=(k:Int))=false:=by simp; omega
 clear h hdo hk hst hc hx hcells q0 q1 q2 q3 q4 q5;unfold bD at kM;go_enter Tryz.func69,Tryz.ntmps69
 go_wp2_with (go_at_call 66; refine hl.mono ?_; rintro e w1 ⟨rfl,rfl⟩);go_quiet (fail)
 have hc0:ah w (w.drewN nq) []:=(ah.refl w []).drewN nq;go_upto_region 6 with(fail)
 have z1:=hc0.cell c1 (by simp);have z34:=hc0.cell c34 (by simp);have za:=hc0.cell e0 (by simp);have zb:=hc0.cell e1 (by simp);have zc:=hc0.cell e2 (by simp);have zd:=hc0.cell e3 (by simp);have ze:=hc0.cell e4 (by simp);have zf:=hc0.cell e5 (by simp);have mg:=hide hc0;have HKL:=hide hkl;generalize w.drewN nq=w0 at *;generalize hln:code.length=ln at *;clear e0 e1 e2 e3 e4 e5 c1 c34 c35 hc0;refine iC fG.out _ _ (fun g0=>DY c g ln ca k op d a bb n g0) (fun(g0:Nat) L w'=>WS w0 [.int .i64 op,.int .i64 d,.int .i64 a,.int .i64 bb,.int .i64 n,.bool true] g0 L w') 0 (by kernel_rfl) [] (by kernel_rfl) (fun p hp γ=>by simp at hp) (by kernel_rfl) ?step ?start ?fin ?ext
 case start=>exact⟨(ah.refl w0 []).drew,fun h=>by cases h⟩
 case ext=>exact fun γ L L' w' h hw=>hw.ext (h 10 (by decide)) (h 11 (by decide))
 case step =>
  intro i o ho L av w1 γ hdn ak hW hL hpre K Q hK
  match i,ho with
  | 0,ho =>
   injection ho with ho; subst ho;have b0:av.tmps.getD 0 undef=.pointer (some ⟨c,0,none⟩):=fM ak 0 (by kernel_rfl);clear ak;refine au ?_ (hK γ w1 (fun _ _=>rfl) (hW.keep (by decide) (by decide))); go_simp; rfl
  | 1,ho =>
   injection ho with ho; subst ho;have s0:=aJ ak 34 0 (by kernel_rfl) (hpre ⟨0,.data⟩ (by simp) rfl);simp only [DY] at s0;clear ak;refine au ?_ (hK γ w1 (fun _ _=>rfl) (hW.keep (by decide) (by decide))); go_simp; rfl
  | 2,ho =>
   injection ho with ho; subst ho;have s1:=aJ ak 35 1 (by kernel_rfl) (hpre ⟨1,.data⟩ (by simp) rfl);simp only [DY] at s1;clear ak;refine au ?_ (hK γ w1 (fun _ _=>rfl) (hW.keep (by decide) (by decide))); go_simp; rfl
  | 3,ho =>
   injection ho with ho; subst ho;have s2:=aJ ak 36 2 (by kernel_rfl) (hpre ⟨2,.data⟩ (by simp) rfl);simp only [DY] at s2;clear ak;have y:=hW.1.cell z1 (by simp);refine au ?_ (hK γ w1 (fun _ _=>rfl) (hW.keep (by decide) (by decide))); go_simp; rfl
  | 4,ho =>
   injection ho with ho; subst ho;have b0:av.tmps.getD 0 undef=.pointer (some ⟨c,0,none⟩):=fM ak 0 (by kernel_rfl);clear ak;refine au ?_ (hK γ w1 (fun _ _=>rfl) (hW.keep (by decide) (by decide))); go_simp; rfl
  | 5,ho =>
   injection ho with ho; subst ho;have s4:=aJ ak 38 4 (by kernel_rfl) (hpre ⟨4,.data⟩ (by simp) rfl);simp only [DY] at s4;clear ak;refine au ?_ (hK γ w1 (fun _ _=>rfl) (hW.keep (by decide) (by decide))); go_simp; rfl
  | 6,ho =>
   injection ho with ho; subst ho;have s5:=aJ ak 39 5 (by kernel_rfl) (hpre ⟨5,.data⟩ (by simp) rfl);simp only [DY] at s5;clear ak;refine au ?_ (hK γ w1 (fun _ _=>rfl) (hW.keep (by decide) (by decide))); go_simp; rfl
  | 7,ho =>
   injection ho with ho; subst ho;have s6:=aJ ak 40 6 (by kernel_rfl) (hpre ⟨6,.data⟩ (by simp) rfl);simp only [DY] at s6;clear ak;have y:=hW.1.cell z34 (by simp);refine au ?_ (hK γ w1 (fun _ _=>rfl) (hW.keep (by decide) (by decide))); go_simp; rfl
  | 8,ho =>
   injection ho with ho; subst ho;have s3:=aJ ak 37 3 (by kernel_rfl) (hpre ⟨3,.data⟩ (by simp) rfl);have s7:=aJ ak 41 7 (by kernel_rfl) (hpre ⟨7,.data⟩ (by simp) rfl);simp only [DY] at s3 s7;clear ak;have hkn:k<ln:=HKL.out;refine au ?_ (hK γ w1 (fun _ _=>rfl) (hW.keep (by decide) (by decide))); go_simp; rfl
  | 9,ho =>
   injection ho with ho; subst ho;have s8:=aJ ak 42 8 (by kernel_rfl) (hpre ⟨8,.data⟩ (by simp) rfl);simp only [DY] at s8;clear ak;have y0:=hW.1.cell za (by simp);have y1:=hW.1.cell zb (by simp);have y2:=hW.1.cell zc (by simp);have y3:=hW.1.cell zd (by simp);have y4:=hW.1.cell ze (by simp);have y5:=hW.1.cell zf (by simp);refine au ?_ (hK γ w1 (fun _ _=>rfl) (hW.keep (by decide) (by decide))); go_simp; rfl
  | 10,ho =>
   injection ho with ho; subst ho;clear ak
   have l11:L 11=false:=by
    cases h:L 11 with
    | false=>rfl
    | true =>
     have h10:L 10=true:=hdn 11 _ rfl h ⟨10,.data⟩ (by simp) rfl;rw [hL] at h10; cases h10
   refine au ?_ (hK w1.heap.size _ (fun jj hjj=>atY _ _ _ _ _ _ _ _ _ _ _ _ jj (fun e=>by rw [e,hL] at hjj; cases hjj)) (WS.new hW l11));go_simp
   try rfl
  | 11,ho =>
   injection ho with ho; subst ho;have l10:=hpre ⟨10,.data⟩ (by simp) rfl;have s10:=aJ ak 3 10 (by kernel_rfl) l10;have s9:=aJ ak 43 9 (by kernel_rfl) (hpre ⟨9,.data⟩ (by simp) rfl);simp only [DY] at s10 s9;clear ak;have l10:=hpre ⟨10,.data⟩ (by simp) rfl;have hbz:=WS.at_ hW l10 hL;have y0:=hbz.cell' (i:=0) rfl;have y1:=hbz.cell' (i:=1) rfl;have y2:=hbz.cell' (i:=2) rfl;have y3:=hbz.cell' (i:=3) rfl;have y4:=hbz.cell' (i:=4) rfl;have y5:=hbz.cell' (i:=5) rfl;have f0:=hbz.frozen 0;have f1:=hbz.frozen 1;have f2:=hbz.frozen 2;have f3:=hbz.frozen 3;have f4:=hbz.frozen 4;have f5:=hbz.frozen 5;have yl:=hbz.lt;refine uf ?_ (hK γ _ (fun _ _=>rfl) (WS.put hW l10 hL));unfold putRow;go_simp
  | _+12,ho=>cases ho
 case fin =>
 intro γ w1 hW;rw [jc,gy,iM];simp only [List.map_cons,List.map_nil];rw [aqr];simp only [DY];obtain⟨hz,hb⟩:=hW.2 rfl;have hb:aC w1 γ 130 [.int .i64 op,.int .i64 d,.int .i64 a,.int .i64 bb,.int .i64 n,.bool true]:=hb;have hc1:ah w w1 []:=mg.out.trans hW.1 (by simp);have r0:w1.cell? ⟨γ,0,none⟩=some (.int .i64 op):=hb.cell' (i:=0) rfl;have r1:w1.cell? ⟨γ,1,none⟩=some (.int .i64 d):=hb.cell' (i:=1) rfl;have r2:w1.cell? ⟨γ,2,none⟩=some (.int .i64 a):=hb.cell' (i:=2) rfl;have r3:w1.cell? ⟨γ,3,none⟩=some (.int .i64 bb):=hb.cell' (i:=3) rfl;have r4:w1.cell? ⟨γ,4,none⟩=some (.int .i64 n):=hb.cell' (i:=4) rfl;have r5:w1.cell? ⟨γ,5,none⟩=some (.bool true):=hb.cell' (i:=5) rfl;have HD:=hide (kM.out w1 hc1);have bZ:=hide hc1;clear hW hz hb hc1 z1 z34 za zb zc zd ze zf kM;go_wp2_with fail
 go_at_call 131;refine HD.out.mono ?_;rintro e w2 ⟨⟨v,rfl⟩,hp⟩;have HP:=hide hp;clear hp HD r0 r1 r2 r3 r4 r5;go_wp2;go_ret;subst hln;exact⟨rfl,hQ _ _ _ bZ.out HP.out⟩
end

section
open Go.RowKit Go.Deep Go.Maps
attribute [local go_sem] Oper.semAt_some
inductive Jr:aW->Prop
 | ay4 (d a:Nat) (n:Int):d<32->a<32->-32768<=n->n<=32767->Jr ⟨31,d,a,0,n⟩
 | ori (d a:Nat) (n:Int):d<32->a<32->0<=n->n<=65535->Jr ⟨32,d,a,0,n⟩
 | lui (d:Nat) (n:Int):d<32->0<=n->n<=65535->Jr ⟨33,d,0,0,n⟩
 | blt (d a:Nat) (n:Int):d<32->a<32->Jr ⟨38,d,a,0,n⟩
 | halt:Jr ⟨43,0,0,0,0⟩
 | add (d a b:Nat):d<32->a<32->b<32->Jr ⟨1,d,a,b,0⟩
def rg (s:CS) (i:Int):Int:=lN s i.toNat
structure LW (w:World) (c:Nat) (cv mv:Value):Prop where
 tab:wG w
 lt:3<w.heap.size
 far:3∉gB c cv mv
theorem LW.aj {w w':World} {c:Nat} {cv mv:Value} (h:LW w c cv mv) (hc:ah w w' []):LW w' c cv mv:=⟨h.tab.aj hc h.lt (by simp),Nat.lt_of_lt_of_le h.lt hc.size,h.far⟩
theorem LW.core{w w':World}{c:Nat}{bp cv mv mv':Value}{code:List (aW×Bool)}{s:CS}(h:LW w c cv mv)(hc:ah w w' ([c]++mv.ownBlock.toList))(hm:mv'.ownBlock=mv.ownBlock\/∃ g,mv'.ownBlock=some g/\w.heap.size<=g):LW w' c cv mv':=by
 refine⟨h.tab.aj hc h.lt (fun hm=>h.far (by simp only [gB,List.mem_append] at hm ⊢; exact hm.elim .inl (fun h=>.inr (.inr h)))),Nat.lt_of_lt_of_le h.lt hc.size,fun hf=>?_⟩;simp only [gB,List.mem_append,List.mem_singleton,Option.mem_toList] at hf;rcases hf with hf | hf | hf
 . exact h.far (by simp [gB,hf])
 . exact h.far (by simp [gB,hf])
 . rcases hm with e | ⟨g,e,hg⟩
   . exact h.far (by rw [e] at hf; simp [gB,hf])
   . rw [e] at hf
     injection hf with hf;have:=h.lt;omega
structure CM (w:World) (c b r:Nat) (cv mv:Value) (code:List (aW×Bool)) (s:CS) (ws:List Int):Prop where
 core:CB w c (.pointer (some ⟨b,0,none⟩)) cv mv code s
 yM:qg w b r ws
 env:LW w c cv mv
 gb:3≠b
 gr:3≠r
theorem CB.typed{w:World}{c:Nat}{bp cv mv:Value}{code:List (aW×Bool)}{s:CS}(h:CB w c bp cv mv code s):∀ k∈gB c cv mv,∃ cs t,w.heap[k]?=some (.cells cs t (0,0))/\(t=123\/t=130\/t=82):=by
 intro k hk;simp only [gB,List.mem_append,List.mem_singleton,Option.mem_toList] at hk;rcases hk with rfl | hk | hk
 . exact⟨_,_,h.blk,.inl rfl⟩
 . obtain⟨cur,hc⟩:=iY h.uY hk
   exact⟨_,_,hc,.inr (.inl rfl)⟩
 . obtain⟨cur,hc⟩:=iY h.yH hk
   exact⟨_,_,hc,.inr (.inr rfl)⟩
section
variable {w w':World} {c b r:Nat} {cv mv:Value} {code:List (aW×Bool)} {s s':CS} {ws:List Int} {D:List Nat}
theorem CM.far (h:CM w c b r cv mv code s ws):b∉gB c cv mv/\r∉gB c cv mv:=by
 refine⟨fun hk=>?_,fun hk=>?_⟩
 . obtain⟨cs,t,h1,h2⟩:=h.core.typed _ hk
   rcases h2 with rfl | rfl | rfl<;>exact qL h1 h.yM.head (by decide) rfl
 . obtain⟨cs,t,h1,h2⟩:=h.core.typed _ hk
   rcases h2 with rfl | rfl | rfl<;>exact qL h1 h.yM.row (by decide) rfl
def mF(c b r:Nat)(cv mv:Value):List Nat:=[b,r]++gB c cv mv
theorem CM.aj (h:CM w c b r cv mv code s ws) (hc:ah w w' D) (hD:∀ k∈mF c b r cv mv,k∉D) (hg:3∉D):CM w' c b r cv mv code s ws :=
 ⟨h.core.aj hc (fun k hk=>hD k (by simp only [mF,List.mem_append]; exact .inr hk)),h.yM.aj hc (hD b (by simp [mF])) (hD r (by simp [mF])),⟨h.env.tab.aj hc h.env.lt hg,Nat.lt_of_lt_of_le h.env.lt hc.size,h.env.far⟩,h.gb,h.gr⟩
def m_(s':CS)(ws':List Int)(c b r:Nat)(cv mv:Value)(code:List (aW×Bool))(w w':World):Prop :=
 ah w w' ([c,r]++mv.ownBlock.toList)/\∃ mv',(mv'.ownBlock=mv.ownBlock\/∃ g,mv'.ownBlock=some g/\w.heap.size<=g)/\CM w' c b r cv mv' code s' ws'
theorem CM.wP (h:CM w c b r cv mv code s ws) (hp:gG s' c (.pointer (some ⟨b,0,none⟩)) cv mv code w w'):m_ s' ws c b r cv mv code w w':=by
 obtain⟨hc,mv',hm,hb⟩:=hp;obtain⟨fb,fr⟩:=h.far;have hn:∀ k,k∉gB c cv mv->k∉[c]++mv.ownBlock.toList:=fun k hk hm=>hk (by simp only [gB,List.mem_append] at hm ⊢; exact hm.elim .inl (fun h=>.inr (.inr h)));refine⟨hc.more (fun k hk=>.inl (by simp only [List.mem_append,List.mem_cons,List.not_mem_nil,or_false] at hk ⊢; exact hk.elim (fun h=>.inl (.inl h)) .inr)),mv',hm,hb,h.yM.aj hc (hn b fb) (hn r fr),h.env.core (bp:=.pointer (some ⟨b,0,none⟩)) (code:=code) (s:=s') hc hm,h.gb,h.gr⟩
end
theorem m_.alloc{w w1 w2:World}{c b r:Nat}{cv mv:Value}{code:List (aW×Bool)}{s':CS}{ws':List Int}(hc:ah w w1 [])(h:m_ s' ws' c b r cv mv code w1 w2):m_ s' ws' c b r cv mv code w w2:=by
 obtain⟨h1,mv',hm,hcm⟩:=h;refine⟨(hc.more (by simp)).trans h1 (fun k hk=>.inl hk),mv',?_,hcm⟩;rcases hm with h | ⟨g,h,hg⟩
 . exact .inl h
 . exact .inr ⟨g,h,Nat.le_trans hc.size hg⟩
theorem m_.step{w w1 w2:World}{c b r:Nat}{cv mv mv1:Value}{code:List (aW×Bool)}{s2:CS}{ws2:List Int}(hc:ah w w1 ([c,r]++mv.ownBlock.toList))(hm:mv1.ownBlock=mv.ownBlock\/∃ g,mv1.ownBlock=some g/\w.heap.size<=g)(h:m_ s2 ws2 c b r cv mv1 code w1 w2):m_ s2 ws2 c b r cv mv code w w2:=by
 obtain⟨h1,mv',hm2,hcm⟩:=h;refine⟨hc.trans h1 (fun k hk=>?_),mv',?_,hcm⟩
 . simp only [List.mem_append,Option.mem_toList] at hk ⊢
   rcases hk with hk | hk
   . exact .inl (.inl hk)
   . rcases hm with e | ⟨g,e,hg⟩
     . rw [e] at hk; exact .inl (.inr hk)
     . rw [e] at hk; injection hk with hk; subst hk; exact .inr hg
 . rcases hm2 with e2 | ⟨g2,e2,hg2⟩
   . rcases hm with e | ⟨g,e,hg⟩
     . exact .inl (e2.trans e)
     . exact .inr ⟨g,e2.trans e,hg⟩
   . exact .inr ⟨g2,e2,Nat.le_trans hc.size hg2⟩
def Js(ad:Nat):Int:=if ad<1024 then 2 else 3
theorem afA{w:World}{c b r:Nat}{cv mv:Value}{code:List (aW×Bool)}{s:CS}{ws:List Int}(h:CM w c b r cv mv code s ws)(d a n v:Nat)(hd:d<32)(ha:a<32)(hv:lN s a=(v:Int))(hin:v+n<ws.length)(hm:s.marks.length<=2000000) :
 Calls Tryz.prog 208 #[.pointer (some ⟨c,0,none⟩),bD ⟨34,d,a,0,n⟩] w fun e w'=>(∃ v,e=.returned v)/\m_ (uZ (wO s d (ws.getD (v+n) 0)) (wrap64 (s.pc+1)) ((v:Int)+(n:Int)) (Js (v+n))) ws c b r cv mv code w w':=by
 have H:=hide h;have HM:=hide hm;have hwl:=h.yM.n;have hlt:=h.core.blk.lt;have hca:=h.core.blk.cell' (nR h.core.reg a ha);have c0:w.cell? ⟨c,0,none⟩=some (.pointer (some ⟨b,0,none⟩)):=h.core.blk.cell' (i:=0) rfl;have c34:=h.core.blk.cell' (@oP (.pointer (some ⟨b,0,none⟩)) cv mv s h.core.reg).1;rw [show s.regs.getD a 0=(v:Int) from hv] at hca;have ha2:(a:Int)<32:=by omega
 have hbd:(v:Int)+(n:Int)<2048:=by omega
 have mg:Hid (∀ nq,ah w ((w.alloc (.cells #[.int .i64 34,.int .i64 d,.int .i64 a,.int .i64 0,.int .i64 n] 126)).drewN nq) []):=hide (fun nq=>((ah.refl w []).alloc _).drewN nq)
 have HLD:Hid (∀ W,ah w W []->Calls Tryz.prog 70 #[.pointer (some ⟨b,0,none⟩),.int .i32 ((v:Int)+(n:Int))] W fun e w'=>e=.returned (.tuple #[.int .i32 (ws.getD (v+n) 0),.bool true])/\ah W w' []):=hide (fun W hc=>by
  have hl:=LH b r ws ((v:Int)+(n:Int)) W (H.out.yM.aj hc (by simp) (by simp)) (by omega) (by omega);have e1:ld ws ((v:Int)+(n:Int))=ws.getD (v+n) 0:=by unfold ld; rw [if_pos (by omega)]; congr 1
  have e2:inB ws ((v:Int)+(n:Int))=true:=by unfold inB; simp; omega
  rwa [e1,e2] at hl)
 have Ry:Hid (∀ W,ah w W []->Calls Tryz.prog 263 #[.int .i64 34] W fun e w'=>e=.returned (.int .i64 2)/\W=w'):=hide (fun W hc=>zn 34 W (H.out.env.aj hc).tab);have HPU:Hid (∀ W,ah w W []->Calls Tryz.prog 205 #[.pointer (some ⟨c,0,none⟩),.int .i64 d,.int .i32 (ws.getD (v+n) 0)] W fun e w'=>(∃ v,e=.returned v)/\gG (wO s d (ws.getD (v+n) 0)) c (.pointer (some ⟨b,0,none⟩)) cv mv code W w'):=hide (fun W hc=>H_ (H.out.core.aj hc (by simp)) d hd _);generalize ws.getD (v+n) 0=x at *;have HB:Hid (aC (w.alloc (.cells #[.int .i64 34,.int .i64 d,.int .i64 a,.int .i64 0,.int .i64 n] 126)) w.heap.size 126 [.int .i64 34,.int .i64 d,.int .i64 a,.int .i64 0,.int .i64 n]):=hide (aC.new w _ _);have Rz:=hide hin;clear h hm hv;unfold bD;go_enter Tryz.func208,Tryz.ntmps208
 go_wp2;go_quiet (fail)
 have hq:=mg.out nq;have z0:=hq.cell c0 (by simp);have z34:=hq.cell c34 (by simp);have hb:=HB.out.drewN nq;have hld:=HLD.out _ hq;have HQ:=hide hq;generalize w.heap.size=ia at *;generalize (w.alloc _).drewN nq=w0 at *;clear hq mg HB c0 c34 HLD;go_wp2_with fail
 go_at_call 70;refine hld.mono ?_;rintro e w1 ⟨rfl,hc1⟩;have hb1:=hb.aj hc1 (by simp);have hq1:=HQ.out.trans hc1 (by simp);have i0:=hb1.cell' (i:=0) rfl;have i1:=hb1.cell' (i:=1) rfl;have hco:=Ry.out w1 hq1;have hpu:=HPU.out w1 hq1;have VD:=hide hq1;clear hld hb hc1 hq1 HQ Ry HPU hb1 z0 z34 hca;go_wp2_with fail
 go_at_call 263;refine hco.mono ?_;rintro e w2 ⟨rfl,rfl⟩;have hcA:Js (v+n)=if v+n<1024 then 2 else 3:=rfl
 have HLW:=hide (⟨Rz.out,hwl⟩:v+n<ws.length/\ws.length<=2048);by_cases h1024:v+n<1024
 all_goals
  first
   | have hx:decide ((1024:Int)<=(v:Int)+(n:Int))=false:=by(simp; omega)
   | have hx:decide ((1024:Int)<=(v:Int)+(n:Int))=true:=by(simp; omega)
  first
   | rw [if_pos h1024] at hcA
   | rw [if_neg h1024] at hcA
  replace hcA:=hide hcA;go_wp2_with fail
  go_at_call 205;refine hpu.mono ?_;rintro e w3 ⟨⟨u,rfl⟩,hp⟩;have HP:=hide (H.out.aj VD.out (fun k _=>by simp) (by simp));have hcp:=HP.out.wP hp;obtain⟨hc3,mv3,hm3,hcm3⟩:=id hcp;have z34:=hcm3.core.blk.cell' (@oP (.pointer (some ⟨b,0,none⟩)) cv mv3 (wO s d x) hcm3.core.reg).1;have hgo:=fun nx ad co=>qU hcm3.core nx ad co (by rw [Fg]; exact HM.out);rw [show(wO s d x).pc=s.pc by unfold wO; split<;>rfl] at z34;have HCP:=hide hcp;have HCM:=hide hcm3;have jC:=hide hc3;have HM3:=hide hm3;have HGO:=hide hgo;clear hp hcp hc3 hm3 hcm3 hgo hpu hco i0 i1;go_wp2_with fail
  go_at_call 262;refine(HGO.out _ _ _).mono ?_;rintro e w4 ⟨⟨u2,rfl⟩,jW⟩;have Gl:=hide (HCM.out.wP jW);clear jW;go_wp2;refine bodyPost_end (results_none rfl _ _ _) rfl ?_;rw [hcA.out];exact⟨⟨_,rfl⟩,m_.alloc VD.out (m_.step jC.out HM3.out Gl.out)⟩
theorem afC{w:World}{c b r:Nat}{cv mv:Value}{code:List (aW×Bool)}{s:CS}{ws:List Int}(h:CM w c b r cv mv code s ws)(d a n v:Nat)(hd:d<32)(ha:a<32)(hv:lN s a=(v:Int))(hin:v+n<ws.length)(hm:s.marks.length<=2000000) :
 Calls Tryz.prog 208 #[.pointer (some ⟨c,0,none⟩),bD ⟨35,d,a,0,n⟩] w fun e w'=>(∃ v,e=.returned v)/\m_ (uZ s (wrap64 (s.pc+1)) ((v:Int)+(n:Int)) (Js (v+n))) (ws.set (v+n) (lN s d)) c b r cv mv code w w':=by
 have H:=hide h;have HM:=hide hm;have hwl:=h.yM.n;have hlt:=h.core.blk.lt;have hca:=h.core.blk.cell' (nR h.core.reg a ha);have hcd:=h.core.blk.cell' (nR h.core.reg d hd);have c0:w.cell? ⟨c,0,none⟩=some (.pointer (some ⟨b,0,none⟩)):=h.core.blk.cell' (i:=0) rfl;have c34:=h.core.blk.cell' (@oP (.pointer (some ⟨b,0,none⟩)) cv mv s h.core.reg).1;rw [show s.regs.getD a 0=(v:Int) from hv] at hca;change w.cell? _=some (.int .i32 (lN s d)) at hcd;have ha2:(a:Int)<32:=by omega
 have hd2:(d:Int)<32:=by omega
 have hbd:(v:Int)+(n:Int)<2048:=by omega
 have mg:Hid (∀ nq,ah w ((w.alloc (.cells #[.int .i64 35,.int .i64 d,.int .i64 a,.int .i64 0,.int .i64 n] 126)).drewN nq) []):=hide (fun nq=>((ah.refl w []).alloc _).drewN nq)
 have HLD:Hid (∀ W,ah w W []->Calls Tryz.prog 70 #[.pointer (some ⟨b,0,none⟩),.int .i32 ((v:Int)+(n:Int))] W fun e w'=>e=.returned (.tuple #[.int .i32 (ws.getD (v+n) 0),.bool true])/\ah W w' []):=hide (fun W hc=>by
  have hl:=LH b r ws ((v:Int)+(n:Int)) W (H.out.yM.aj hc (by simp) (by simp)) (by omega) (by omega);have e1:ld ws ((v:Int)+(n:Int))=ws.getD (v+n) 0:=by unfold ld; rw [if_pos (by omega)]; congr 1
  have e2:inB ws ((v:Int)+(n:Int))=true:=by unfold inB; simp; omega
  rwa [e1,e2] at hl)
 have Ry:Hid (∀ W,ah w W []->Calls Tryz.prog 263 #[.int .i64 35] W fun e w'=>e=.returned (.int .i64 2)/\W=w'):=hide (fun W hc=>zn 35 W (H.out.env.aj hc).tab);generalize hxr:lN s d=x at *
 have HST:Hid (∀ W,ah w W []->Calls Tryz.prog 68 #[.pointer (some ⟨b,0,none⟩),.int .i32 ((v:Int)+(n:Int)),.int .i32 x] W fun e w'=>e=.returned (.bool true)/\m_ s (ws.set (v+n) x) c b r cv mv code W w'):=hide (fun W hc=>by
  have hcm:=H.out.aj hc (fun k _=>by simp) (by simp);refine(Rq b r ws ((v:Int)+(n:Int)) x W hcm.yM (by omega) (by omega)).mono ?_;rintro e w' ⟨rfl,hr,hc2⟩;have e1:st ws ((v:Int)+(n:Int)) x=ws.set (v+n) x:=by unfold st; rw [if_pos (by omega)]; congr 1
  have e2:inB ws ((v:Int)+(n:Int))=true:=by unfold inB; simp; omega
  rw [e1] at hr;rw [e2];obtain⟨_,fr⟩:=hcm.far;have hrn:∀ k∈gB c cv mv,k∉[r]:=fun k hk hm=>by simp only [List.mem_singleton] at hm; subst hm; exact fr hk
  exact⟨rfl,hc2.more (fun k hk=>.inl (by simp only [List.mem_singleton] at hk; simp [hk])),mv,.inl rfl,hcm.core.aj hc2 hrn,hr,⟨hcm.env.tab.aj hc2 hcm.env.lt (by simpa using hcm.gr),Nat.lt_of_lt_of_le hcm.env.lt hc2.size,hcm.env.far⟩,hcm.gb,hcm.gr⟩)
 generalize ws.getD (v+n) 0=y at *;have HB:Hid (aC (w.alloc (.cells #[.int .i64 35,.int .i64 d,.int .i64 a,.int .i64 0,.int .i64 n] 126)) w.heap.size 126 [.int .i64 35,.int .i64 d,.int .i64 a,.int .i64 0,.int .i64 n]):=hide (aC.new w _ _);have Rz:=hide hin;have HXR:=hide hxr;clear h hm hv hxr;unfold bD;go_enter Tryz.func208,Tryz.ntmps208
 go_wp2;go_quiet (fail)
 have hq:=mg.out nq;have z0:=hq.cell c0 (by simp);have z34:=hq.cell c34 (by simp);have zd:=hq.cell hcd (by simp);have hb:=HB.out.drewN nq;have hld:=HLD.out _ hq;have HQ:=hide hq;generalize w.heap.size=ia at *;generalize (w.alloc _).drewN nq=w0 at *;clear hq mg HB c0 c34 hcd HLD;go_wp2_with fail
 go_at_call 70;refine hld.mono ?_;rintro e w1 ⟨rfl,hc1⟩;have hb1:=hb.aj hc1 (by simp);have hq1:=HQ.out.trans hc1 (by simp);have i0:=hb1.cell' (i:=0) rfl;have i1:=hb1.cell' (i:=1) rfl;have y0:=hc1.cell z0 (by simp);have yd:=hc1.cell zd (by simp);have hco:=Ry.out w1 hq1;have VD:=hide hq1;clear hld hb hc1 hq1 HQ Ry hb1 z0 z34 zd hca;go_wp2_with fail
 go_at_call 263;refine hco.mono ?_;rintro e w2 ⟨rfl,rfl⟩;have hcA:Js (v+n)=if v+n<1024 then 2 else 3:=rfl
 have HLW:=hide (⟨Rz.out,hwl⟩:v+n<ws.length/\ws.length<=2048);by_cases h1024:v+n<1024
 all_goals
  first
   | have hx:decide ((1024:Int)<=(v:Int)+(n:Int))=false:=by(simp; omega)
   | have hx:decide ((1024:Int)<=(v:Int)+(n:Int))=true:=by(simp; omega)
  first
   | rw [if_pos h1024] at hcA
   | rw [if_neg h1024] at hcA
  replace hcA:=hide hcA;go_wp2_with fail
  go_still_tail 12,(by kernel_rfl)
  change wpList _ _ _ _ _ w1.drew;have hqd:ah w1 w1.drew []:=(ah.refl w1 []).drew;have hst:=HST.out w1.drew (VD.out.trans hqd (by simp));have HQD:=hide (VD.out.trans hqd (by simp));go_wp2_with fail
  go_at_call 68;refine hst.mono ?_;rintro e w3 ⟨rfl,hcp⟩;obtain⟨hc3,mv3,hm3,hcm3⟩:=id hcp;have z34:=hcm3.core.blk.cell' (@oP (.pointer (some ⟨b,0,none⟩)) cv mv3 s hcm3.core.reg).1;have hgo:=fun nx ad co=>qU hcm3.core nx ad co HM.out;have HCM:=hide hcm3;have jC:=hide hc3;have HM3:=hide hm3;have HGO:=hide hgo;clear hcp hc3 hm3 hcm3 hgo hst hqd hco i0 i1 y0 yd;go_wp2_with fail
  go_at_call 262;refine(HGO.out _ _ _).mono ?_;rintro e w4 ⟨⟨u2,rfl⟩,jW⟩;have Gl:=hide (HCM.out.wP jW);clear jW;go_wp2;refine bodyPost_end (results_none rfl _ _ _) rfl ?_;rw [hcA.out];exact⟨⟨_,rfl⟩,m_.alloc HQD.out (m_.step jC.out HM3.out Gl.out)⟩
end

section
open Go.RowKit Go.Deep Go.Maps
attribute [local go_sem] Oper.semAt_some
theorem afY:(Tryz.prog.info? 130).map (fun i=>(i.zero,i.size,i.bytes))=some (some (.agg #[.int .i64 0,.int .i64 0,.int .i64 0,.int .i64 0,.int .i64 0,.bool false]),6,48):=by kernel_rfl
theorem anh{w:World}{a b c d f g:Value}{t:TypeId}:∀ j u,[a,b,c,d,f,g][j]?=some u->((w.alloc (.cells #[a,b,c,d,f,g] t)).drew).cell? ((⟨w.heap.size,0,none⟩:Addr).add j)=some u:=by
 intro j u hj
 match j,hj with
 | 0,hj=>simp at hj; subst hj; simp [Addr.add]
 | 1,hj=>simp at hj; subst hj; simp [Addr.add]
 | 2,hj=>simp at hj; subst hj; simp [Addr.add]
 | 3,hj=>simp at hj; subst hj; simp [Addr.add]
 | 4,hj=>simp at hj; subst hj; simp [Addr.add]
 | 5,hj=>simp at hj; subst hj; simp [Addr.add]
theorem ani{a b c d f:Int}{t:Bool}:∀ u∈[Value.int .i64 a,.int .i64 b,.int .i64 c,.int .i64 d,.int .i64 f,.bool t],u.oneCell'=true:=by
 intro u hu;simp at hu;rcases hu with rfl | rfl | rfl | rfl | rfl | rfl<;>rfl
def kZ:CS:=⟨List.replicate 32 0,0,0,0,[]⟩
def zeroCells (bp cv:Value):List Value:=bT bp cv (.slice none 0 0) kZ
def sQ(is:List aW):List (aW×Bool):=is.map fun i=>(i,true)
theorem SV(l:List (aW×Bool))(i:aW)(t:Bool):kG (l++[(i,t)])=kG l++[.int .i64 i.op,.int .i64 i.d,.int .i64 i.a,.int .i64 i.b,.int .i64 i.n,.bool t]:=by
 simp [kG,wB]
theorem Kr{i:aW}(h:jV i=0):0<=encI i/\encI i<=4294967295:=by
 have hb:=CZ ((lS _ _ _ _ _).1 h);have hE:pK i.op i.d i.a i.b i.n 4=i.op*67108864+i.d*2097152+i.a*65536+i.b*2048+i.n%65536:=rfl;unfold encI;rw [if_pos h,hE];omega
theorem Y2(i:aW)(h:jV i=0)(w:World):Calls Tryz.prog 61 #[.int .u32 (encI i)] w fun e w'=>e=.returned (.tuple #[kK i.op i.d i.a i.b i.n,.int .i64 0])/\ah w w' []:=by
 have:=decode_any (encI i) w (Kr h).1 (Kr h).2;rwa [ai6 h] at this
theorem acK{w:World}(A:Option Addr)(cp:Nat)(is:List aW)(hs:Sl w (.slice A is.length cp) ((is.map encI).map (Value.int .u32)))(hok:∀ i∈is,jV i=0)(hl:is.length<=16384)
 (A2:Option Addr) (cp2:Nat) (ws:List Int) (hw:ws.length<=2048) (hd:Sl w (.slice A2 ws.length cp2) (bG ws)) :
 Calls Tryz.prog 23 #[.slice A is.length cp,.slice A2 ws.length cp2] w fun e w'=>∃ c b r cv,e=.returned (.tuple #[.pointer (some ⟨c,0,none⟩),.int .i64 0])/\ah w w' []/\CB w' c (.pointer (some ⟨b,0,none⟩)) cv (.slice none 0 0) (sQ is) kZ/\qg w' b r ws/\w.heap.size<=b/\w.heap.size<=r/\(∀ k∈gB c cv (.slice none 0 0),w.heap.size<=k):=by
 obtain⟨i0,hi,hz0,hz1,hz2⟩:=info_parts afY;have hnew:=new_any A2 cp2 ws w hw hd;have HS:=hide hs;have HOK:=hide hok;clear hs hok hd;go_enter Tryz.func23,Tryz.ntmps23
 go_wp2_with fail
 go_at_call 60;refine hnew.mono ?_;rintro e w1 ⟨b,r,rfl,Vz,hb1,hr1,hc1⟩;have axd:=hide Vz;have bZ:=hide hc1;have HL:=hide hl;have hx1:decide ((16384:Int)<(is.length:Int))=false:=by simp; omega
 clear Vz hc1 hnew;go_wp2;generalize hcq:w1.heap.size=c at *;replace hcq:=hide hcq;go_loopw [30] (fun i wr=>∃(k:Nat) (cv:Value),k<=is.length/\i=.int .i64 k/\Hid (ah w1 wr [])/\Hid (CB wr c (.pointer (some ⟨b,0,none⟩)) cv (.slice none 0 0) (sQ (is.take k)) kZ)/\Hid (∀ g,cv.ownBlock=some g->c<=g)) (fun i _=>is.length - (intOf i).toNat)
 case atStart =>
  refine⟨0,.slice none 0 0,Nat.zero_le _,rfl,hide ((ah.refl w1 []).alloc _),hide ⟨by rw [<- hcq.out]; exact aC.new w1 123 (zeroCells (.pointer (some ⟨b,0,none⟩)) (.slice none 0 0)),World.ownsRow_nil _ _ _ _,World.ownsRow_nil _ _ _ _,rfl⟩,hide (fun g hg=>by simp [Value.ownBlock] at hg)⟩
 case round =>
  obtain⟨k,cv,hk,rfl,HR,HB,HV⟩:=hrel;by_cases hlt:k<is.length
  . obtain⟨i,hik⟩:∃ i,is[k]?=some i:=⟨is[k],by simp [hlt]⟩
    have hci:jV i=0:=HOK.out i (List.mem_of_getElem? hik);have HTK:Hid (is.take (k+1)=is.take k++[i]):=hide (by rw [List.take_add_one,hik]; rfl);obtain⟨b0,off,hA,hcell,hbl⟩:=HS.out.at_ (k:=k) (u:=.int .u32 (encI i)) (by simp [hik]);subst hA;have hcr:=(bZ.out.trans HR.out (by simp)).cell hcell (by simp);have hdec:=Y2 i hci wr;have HCI:=hide hci;generalize encI i=ei at *;clear hcell hik hci;obtain⟨op,d,a,bb,n⟩:=i;unfold kK at hdec;go_wp2_with fail
    go_at_call 61;refine hdec.mono ?_;rintro e w2 ⟨rfl,hc2⟩;have HC2:=hide hc2;clear hc2 hcr hdec;go_upto_region 9 with(fail)
    have hlq:(sQ (is.take k)).length=k:=by simp [sQ]; omega
    have aud:Hid (sQ (is.take (k+1))=sQ (is.take k)++[(⟨op,d,a,bb,n⟩,true)]):=hide (by rw [HTK.out]; simp [sQ]);have hcz:=(ah.refl w2 []).alloc (.cells #[.int .i64 op,.int .i64 d,.int .i64 a,.int .i64 bb,.int .i64 n] 126);have hbx:=aC.new w2 126 [.int .i64 op,.int .i64 d,.int .i64 a,.int .i64 bb,.int .i64 n];have hb3:=(HB.out.aj HC2.out (by simp)).aj hcz (by simp);have hs0:=HC2.out.size;generalize w2.heap.size=q at *;have x0:=hbx.cell' (i:=0) rfl;have x1:=hbx.cell' (i:=1) rfl;have x2:=hbx.cell' (i:=2) rfl;have x3:=hbx.cell' (i:=3) rfl;have x4:=hbx.cell' (i:=4) rfl;have xl:=hbx.lt;have HCZ:Hid (ah w1 _ []):=hide ((HR.out.trans HC2.out (by simp)).trans hcz (by simp));generalize w2.alloc _=w3 at *;generalize sQ (is.take k)=rows at *;have c1:w3.cell? ⟨c,1,none⟩=some cv:=hb3.blk.cell' (i:=1) rfl;have f1:=hb3.blk.frozen 1;have hcl:=hb3.blk.lt;have HB3:=hide hb3;obtain⟨A3,c3,rfl⟩:=bK hb3.uY;have hrl:rows.length<=16384:=by have:=HL.out; omega
    have HLQ:=hide hlq;clear hcz hbx hb3 HB HC2 HR hs0 hlq;go_region_law (refine step_append_lies _ rfl (.tmp 43) (.tmp 48) 120 rfl 0 130 i0 (.agg #[.int .i64 0,.int .i64 0,.int .i64 0,.int .i64 0,.int .i64 0,.bool false]) 6 48 Tryz.underlying120 hi hz0 hz1 hz2 rfl (by decide) (.slice A3 rows.length c3) rows.length _ (by simp [Act.eval]) ((HB3.out.uY.alloc _).drew) ⟨w3.heap.size,0,none⟩ 1 1 [.int .i64 op,.int .i64 d,.int .i64 a,.int .i64 bb,.int .i64 n,.bool true] (by simp [Act.eval]) rfl anh ani (by decide) (by unfold maxLen; omega) (by omega) (Nat.zero_le _) _ rfl ?_; rintro g cap w4 hown hgr hg2 hg3; have hc4:ah w3 w4 (Value.slice A3 rows.length c3).ownBlock.toList:=((((ah.refl w3 _).alloc _).drew).trans (ah.fZ hgr (fun k hk=>.inl (by simp [hk]))) (fun k hk=>.inl hk)); have hb4:=HB3.out.blk.aj hc4 (by simpa using fun e=>HB3.out.ne.1 e); have y1:=hb4.cell' (i:=1) rfl; have yf:=hb4.frozen 1; have yl:=hb4.lt; have HB4:=hide hb4; have jB:=hide hc4; have qc:=hide hown; have hg2:=hg2.imp id (fun h=>h.trans (size_alloc w3 (.cells #[.int .i64 op,.int .i64 d,.int .i64 a,.int .i64 bb,.int .i64 n,.bool true] 130))); have J3:=hide hg2; clear hown hgr hc4 hb4 hg2; skip)
    all_goals
     go_wp2;go_roundw
     case rel =>
      have hgl:g<w4.heap.size:=hg3;obtain⟨n1,n2,n3⟩:=HB3.out.ne
      have hbg:g≠c:=fun e=>by
       rcases J3.out with h | h
       . exact n1 (by rw [h,e])
       . omega
      have hgc:c<=g:=by
       rcases J3.out with h | h
       . exact HV.out g h
       . omega
      have hc5:ah w4 (w4.setCell ⟨c,1,none⟩ (.slice (some ⟨g,0,none⟩) (rows.length+1) cap)) [c]:=(ah.refl w4 _).setCell _ _ (by simp);refine⟨k+1,.slice (some ⟨g,0,none⟩) (rows.length+1) cap,by omega,by go_num,?_,hide ⟨HB4.out.aK 1 _,?_,World.ownsRow_nil _ _ _ _,rfl⟩,hide ?_⟩
      . have hq:=hcq.out
        exact hide ((HCZ.out.trans jB.out (fun k hk=>.inr (by have:=HV.out k (Option.mem_toList.1 hk); omega))).trans hc5 (fun k hk=>.inr (by simp only [List.mem_singleton] at hk; omega)))
      . rw [aud.out,SV,List.length_append]
        exact aH qc.out hc5 (fun k hk=>by simp [Value.ownBlock] at hk; subst hk; simpa using hbg)
      . intro g' hg'
        simp [Value.ownBlock] at hg';subst hg';exact hgc
     case measure=>simp [intOf]; omega
  . obtain rfl:k=is.length:=by omega
    go_wp2;go_ret2;have hb:=HB.out;rw [List.take_length] at hb;have hq:=hcq.out;have hz:=bZ.out.size;refine⟨c,b,r,cv,rfl,bZ.out.trans HR.out (by simp),hb,axd.out.aj HR.out (by simp) (by simp),hb1,hr1,fun k hk=>?_⟩;simp only [gB,List.mem_append,List.mem_singleton,Option.mem_toList,Value.ownBlock] at hk;rcases hk with rfl | hk | hk
    . omega
    . exact Nat.le_trans (by omega) (HV.out k hk)
    . cases hk
