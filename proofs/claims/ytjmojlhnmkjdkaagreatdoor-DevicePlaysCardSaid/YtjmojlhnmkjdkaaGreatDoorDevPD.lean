/- The law on what a device answers. -/
import Derived.Test.YtjmojlhnmkjdkaaGreatDoorDoc39D
import Derived.Test.YtjmojlhnmkjdkaaGreatDoorDevLD
set_option linter.unusedVariables false
set_option linter.unusedSimpArgs false
namespace Go.Proofs.YtjmojlhnmkjdkaaGreatDoor
open Go Go.RowKit Go.Deep Go.Maps Ab Xi
attribute [local go_sem] Oper.semAt_some
theorem as7{A:Option Addr}{k:Nat}(h:k∈(A.map (·.block)).toList):∃ a,A=some a/\a.block=k:=by
 cases A with
 | none=>cases h
 | some a=>exact⟨a,rfl,by simp at h; exact h.symm⟩
def DoO(y:Xi.St)(fr:List Nat)(er:Int):FH:=fun γ m w F=>match m with
 | 0=>F=[]
 | _+1=>∃ A n c,γ 5=.tuple #[y.val,.slice A n c,.int .i64 er]/\Sl w (.slice A n c) (bU fr)/\F=(A.map (·.block)).toList
theorem DoO.ai8(y:Xi.St)(fr:List Nat)(er:Int):Qd (DoO y fr er):=fun γ m w w' F D ho hc hF hD=>by
 rcases m with _ | m
 . exact ho
 . obtain⟨A,n,c,h1,h2,rfl⟩:=ho
   exact⟨A,n,c,h1,h2.aj hc (fun A' n' c' e=>by injection e with e; subst e; exact hF _ (by simp)),rfl⟩
def yP (x y:Xi.St) (fr:List Nat) (er:Int) (f:Bool) (bb off n cv jj S0 k cb:Nat) (B:Option Addr) (γ:Gh):Nat->Value
 | 0=>.agg #[.int .i32 x.q.a.v,.int .i32 x.q.b.v,.int .i32 x.q.c.v,.int .i32 x.q.d.v,.int .i64 x.s,.int .i64 x.f,.int .i64 x.g]
 | 1=>.slice (some ⟨bb,off,none⟩) n cv
 | 2=>.int .i64 jj
 | 3=>.pointer (some ⟨bb,off+jj*2,none⟩)
 | 4=>.agg #[.bool f,.slice B k cb]
 | 5=>γ 5
 | 6=>γ 5
 | 7=>rZ (γ 5) 0
 | 8=>rZ (γ 5) 1
 | 9=>rZ (γ 5) 2
 | 10=>γ 10
 | 11=>undef
 | 12=>rZ (γ 5) 1
 | 13=>rZ (γ 5) 2
 | _=>undef
def oW:Nat->List Nat
 | 0=>[5]
 | 1=>[10,11]
 | _=>[]
def as8 (x y:Xi.St) (fr:List Nat) (er:Int) (f:Bool) (bb off n cv jj S0 k cb:Nat) (B:Option Addr):Nat->FH
 | 0=>DoO y fr er
 | 1=>FK 10 46 [.int .i32 0,.int .i32 0,.int .i32 0,.int .i32 0,.int .i64 0,.int .i64 0,.int .i64 0] (fun _=>[.int .i32 y.q.a.v,.int .i32 y.q.b.v,.int .i32 y.q.c.v,.int .i32 y.q.d.v,.int .i64 y.s,.int .i64 y.f,.int .i64 y.g])
 | _=>fun _ _ _ _=>False
theorem akA(x y:Xi.St)(fr:List Nat)(er:Int)(f:Bool)(bb off n cv jj S0 k cb:Nat)(B:Option Addr):∀ j,j<2->Qd (as8 x y fr er f bb off n cv jj S0 k cb B j):=fun j hj=>by
 match j,hj with
 | 0,_=>exact(show Qd (DoO y fr er) from DoO.ai8 y fr er)
 | 1,_=>exact(show Qd (FK 10 46 [.int .i32 0,.int .i32 0,.int .i32 0,.int .i32 0,.int .i64 0,.int .i64 0,.int .i64 0] (fun _=>[.int .i32 y.q.a.v,.int .i32 y.q.b.v,.int .i32 y.q.c.v,.int .i32 y.q.d.v,.int .i64 y.s,.int .i64 y.f,.int .i64 y.g])) from FK.ai8 _ _ _ _)
theorem as9(x y:Xi.St)(fr:List Nat)(er:Int)(f:Bool)(bb off n cv jj S0 k cb:Nat)(B:Option Addr)(γ:Gh)(v:Value):∀ j,j∉([5,6,7,8,9,12,13]:List Nat)->yP x y fr er f bb off n cv jj S0 k cb B (upd γ 5 v) j=yP x y fr er f bb off n cv jj S0 k cb B γ j:=fun j hj=>by
 match j,hj with
 | 0,_=>rfl
 | 1,_=>rfl
 | 2,_=>rfl
 | 3,_=>rfl
 | 4,_=>rfl
 | 5,hj=>exact absurd (by decide) hj
 | 6,hj=>exact absurd (by decide) hj
 | 7,hj=>exact absurd (by decide) hj
 | 8,hj=>exact absurd (by decide) hj
 | 9,hj=>exact absurd (by decide) hj
 | 10,_=>rfl
 | 11,_=>rfl
 | 12,hj=>exact absurd (by decide) hj
 | 13,hj=>exact absurd (by decide) hj
 | _+14,_=>rfl
theorem aoo(x y:Xi.St)(fr:List Nat)(er:Int)(f:Bool)(bb off n cv jj S0 k cb:Nat)(B:Option Addr)(γ:Gh)(v:Value):∀ j,j∉([10]:List Nat)->yP x y fr er f bb off n cv jj S0 k cb B (upd γ 10 v) j=yP x y fr er f bb off n cv jj S0 k cb B γ j:=fun j hj=>by
 match j,hj with
 | 0,_=>rfl
 | 1,_=>rfl
 | 2,_=>rfl
 | 3,_=>rfl
 | 4,_=>rfl
 | 5,_=>rfl
 | 6,_=>rfl
 | 7,_=>rfl
 | 8,_=>rfl
 | 9,_=>rfl
 | 10,hj=>exact absurd (by decide) hj
 | 11,_=>rfl
 | 12,_=>rfl
 | 13,_=>rfl
 | _+14,_=>rfl
theorem ata(v:Nat->Value)(t0 t1 t2 t3 t4 t5 t6 t7 t8 t9 t10 t11 t12 t13 t14 t15 t16 t17 t18 t19 t20 t21 t22 t23 t24 t25 t26 t27 t28 t29 t30 t31 t32 t33 t34 t35 t36 t37 t38 t39 t40 t41 t42 t43 t44 t45 t46 t47 t48 t49 t50 t51 t52 t53 t54 t55 t56 t57 t58 t59 t60 t61 t62 t63 t64 t65 t66 t67 t68 t69 t70 t71 t72 t73 t74 t75 t76 t77:Value):oK v (some 34::some 35::some 36::some 37::some 38::some 39::some 33::some 40::some 41::some 42::some 8::none::some 9::some 10::[]) 0 (t0::t1::t2::t3::t4::t5::t6::t7::t8::t9::t10::t11::t12::t13::t14::t15::t16::t17::t18::t19::t20::t21::t22::t23::t24::t25::t26::t27::t28::t29::t30::t31::t32::t33::t34::t35::t36::t37::t38::t39::t40::t41::t42::t43::t44::t45::t46::t47::t48::t49::t50::t51::t52::t53::t54::t55::t56::t57::t58::t59::t60::t61::t62::t63::t64::t65::t66::t67::t68::t69::t70::t71::t72::t73::t74::t75::t76::t77::[])=(t0::t1::t2::t3::t4::t5::t6::t7::v 10::v 12::v 13::t11::t12::t13::t14::t15::t16::t17::t18::t19::t20::t21::t22::t23::t24::t25::t26::t27::t28::t29::t30::t31::t32::v 6::v 0::v 1::v 2::v 3::v 4::v 5::v 7::v 8::v 9::t43::t44::t45::t46::t47::t48::t49::t50::t51::t52::t53::t54::t55::t56::t57::t58::t59::t60::t61::t62::t63::t64::t65::t66::t67::t68::t69::t70::t71::t72::t73::t74::t75::t76::t77::[]):=by kernel_rfl
def qB (y:Xi.St) (er:Int) (st:ByteArray) (d kb mb kw mw:Nat) (Ab Aw:Option Addr) (_:Unit):Nat->Value
 | 0=>.slice Ab kb mb
 | 1=>.string st
 | 2=>.slice Aw kw mw
 | 3=>.string st
 | 4=>.bool false
 | 5=>.bool false
 | 6=>.int .i64 er
 | 7=>.int .i64 er
 | 8=>.bool false
 | 9=>.bool false
 | 10=>.bool false
 | 11=>.pointer (some ⟨d,0,none⟩)
 | 12=>.agg #[.int .i32 y.q.a.v,.int .i32 y.q.b.v,.int .i32 y.q.c.v,.int .i32 y.q.d.v,.int .i64 y.s,.int .i64 y.f,.int .i64 y.g]
 | 13=>.agg #[.int .i32 y.q.a.v,.int .i32 y.q.b.v,.int .i32 y.q.c.v,.int .i32 y.q.d.v,.int .i64 y.s,.int .i64 y.f,.int .i64 y.g]
 | 14=>.bool false
 | 15=>.bool false
 | _=>undef
theorem ahk(v:Nat->Value)(t0 t1 t2 t3 t4 t5 t6 t7 t8 t9 t10 t11 t12 t13 t14 t15 t16 t17 t18 t19 t20 t21 t22 t23 t24 t25 t26 t27 t28 t29 t30 t31 t32 t33 t34 t35 t36 t37 t38 t39 t40 t41 t42 t43 t44 t45 t46 t47 t48 t49 t50 t51 t52 t53 t54 t55 t56 t57 t58 t59 t60 t61 t62 t63 t64 t65 t66 t67 t68 t69 t70 t71 t72 t73 t74 t75 t76 t77:Value):oK v (some 61::some 62::some 63::some 64::some 65::some 66::some 67::some 68::some 69::some 70::some 71::some 72::some 73::some 74::some 75::some 76::[]) 0 (t0::t1::t2::t3::t4::t5::t6::t7::t8::t9::t10::t11::t12::t13::t14::t15::t16::t17::t18::t19::t20::t21::t22::t23::t24::t25::t26::t27::t28::t29::t30::t31::t32::t33::t34::t35::t36::t37::t38::t39::t40::t41::t42::t43::t44::t45::t46::t47::t48::t49::t50::t51::t52::t53::t54::t55::t56::t57::t58::t59::t60::t61::t62::t63::t64::t65::t66::t67::t68::t69::t70::t71::t72::t73::t74::t75::t76::t77::[])=(t0::t1::t2::t3::t4::t5::t6::t7::t8::t9::t10::t11::t12::t13::t14::t15::t16::t17::t18::t19::t20::t21::t22::t23::t24::t25::t26::t27::t28::t29::t30::t31::t32::t33::t34::t35::t36::t37::t38::t39::t40::t41::t42::t43::t44::t45::t46::t47::t48::t49::t50::t51::t52::t53::t54::t55::t56::t57::t58::t59::t60::v 0::v 1::v 2::v 3::v 4::v 5::v 6::v 7::v 8::v 9::v 10::v 11::v 12::v 13::v 14::v 15::t77::[]):=by kernel_rfl
set_option maxRecDepth 100000 in
set_option maxHeartbeats 8000000 in
theorem JV{w:World}(hg:oh w){A:Option Addr}{cv:Nat}{ds:List lG}(h:O_ w A ds)(hl:ds.length<=maxLen)(hln:∀ d∈ds,d.2.length<=maxLen/\∀ y∈d.2,y<256) :
 Calls Tryz.prog 4 #[.slice A ds.length cv] w fun e w'=>e=.returned (.bool true)/\ah w w' []:=by
 have hfw:=ahf (c:=cv) 12 h hl (fun d hd=>(hln d hd).1);have fG:=hide (show Tryz.prog.follows .mixedOrders=true by kernel_rfl);have HG:=hide hg
 cases hb:IW ds 12 with
 | false =>
  rw [hb] at hfw;have haw:=Gy hg;clear h hl hln hg hb;go_enter Tryz.func4,Tryz.ntmps4
  go_wp2_with fail
  go_at_call 14;refine hfw.mono ?_;rintro e w1 ⟨rfl,hw1⟩;obtain rfl:=hw1.symm;clear hfw;go_wp2_with fail
  go_at_call 15;refine haw.mono ?_;rintro e w2 ⟨rfl,hc⟩;have HC:=hide hc;clear haw hc;go_wp2;go_ret;exact⟨rfl,HC.out⟩
 | true =>
  obtain⟨hb1,hb2⟩:=Yk hb;have hb2:ds.length<=12:=by omega
  rw [hb] at hfw;have HX:=hide h;have HLN:=hide hln;have hnw:=O8 w hg;clear h hl hln hg hb hb1;go_enter Tryz.func4,Tryz.ntmps4
  go_wp2_with fail
  go_at_call 14;refine hfw.mono ?_;rintro e w1 ⟨rfl,hw1⟩;obtain rfl:=hw1.symm;clear hfw;go_wp2_with fail
  go_at_call 16;refine hnw.mono ?_;rintro e w1 ⟨d,c1,F1,I1,rfl,hc1,hd1,hf1⟩;have bZ:=hide hc1;have HD1:=hide hd1;have jR:=hide hf1;have hrz:=Sv w1 (.int .i32 0) (.int .i32 0) (.int .i32 0) (.int .i32 0) (.int .i64 0) (.int .i64 0) (.int .i64 0) none 0 0;have HRZ:=hide hrz;clear hnw hc1 hd1 hf1 hrz;go_wp2_with fail
  go_at_call 17;refine HRZ.out.mono ?_;rintro e w2 ⟨rfl,hc2⟩;have hca:ah w2 (w2.alloc (.cells #[.int .i32 1073741824,.int .i32 0,.int .i32 0,.int .i32 0,.int .i64 0,.int .i64 0,.int .i64 0] 46)) []:=(ah.refl w2 []).alloc _;have hS:aC (w2.alloc (.cells #[.int .i32 1073741824,.int .i32 0,.int .i32 0,.int .i32 0,.int .i64 0,.int .i64 0,.int .i64 0] 46)) w2.heap.size 46 st0.cells:=(show st0.cells=[.int .i32 1073741824,.int .i32 0,.int .i32 0,.int .i32 0,.int .i64 0,.int .i64 0,.int .i64 0] by kernel_rfl)▸aC.new w2 46 [.int .i32 1073741824,.int .i32 0,.int .i32 0,.int .i32 0,.int .i64 0,.int .i64 0,.int .i64 0];have hza:(w2.alloc (.cells #[.int .i32 1073741824,.int .i32 0,.int .i32 0,.int .i32 0,.int .i64 0,.int .i64 0,.int .i64 0] 46)).heap.size=w2.heap.size+1:=size_alloc _ _;have hcA:=hc2.trans hca (D:=[]) (by simp);have BQ:=hide (bZ.out.trans hcA (D:=[]) (by simp));have HDA:=hide (HD1.out.bJ hcA);have HSA:=hide hS;have HZA:=hide hza;have HZ1:=hide (show w1.heap.size<=w2.heap.size/\w.heap.size<=w1.heap.size from⟨hc2.size,bZ.out.size⟩);have HL1:=hide HD1.out.low;clear hc2 hca hS hza hcA HRZ HD1;go_wp2_with fail
  generalize w2.alloc (.cells #[.int .i32 1073741824,.int .i32 0,.int .i32 0,.int .i32 0,.int .i64 0,.int .i64 0,.int .i64 0] 46)=wa at *;generalize w2.heap.size=S0 at *;go_loopw [7,9,10,11,12] (fun i _ _ _ _ wr=>∃ j:Nat,j<=ds.length/\i=.int .i64 j/\Hid (ah w wr [])/\Hid (∃ x s ran n F,n<=j/\fH wr d c1 x s ran n F I1/\aC wr S0 46 x.cells/\∀ k∈F,k∈F1\/S0<k)) (fun i _ _ _ _ _=>ds.length - (intOf i).toNat)
  case atStart=>exact⟨0,Nat.zero_le _,rfl,BQ,hide ⟨st0,_,_,0,F1,Nat.le_refl _,HDA.out,HSA.out,fun k hk=>.inl hk⟩⟩
  case round =>
   clear HDA HSA;obtain⟨jj,hj,rfl,HC,HDV⟩:=hrel;obtain⟨x,s,ran,nn,F,hnj,hdv,hsb,hsub⟩:=HDV.out;by_cases hlt:jj<ds.length
   . obtain⟨⟨f,dl⟩,hd⟩:∃ d,ds[jj]?=some d:=⟨ds[jj],by simp [hlt]⟩
     obtain⟨bb,off,B,cb,rfl,q0,q1,q3⟩:=HX.out.at_ hd;have hmem:=List.mem_of_getElem? hd;have hlm:=(HLN.out _ hmem).1;have hby:=(HLN.out _ hmem).2;simp only at q0 q1 q3 hlm hby;have Q0:=hide (HC.out.cell q0 (by simp));have Q1:=hide (HC.out.cell q1 (by simp));have W0:=hide q0;have W1:=hide q1;have hin:=q3.keep HC.out;have HJN:=hide hlt;have akB:=as2 x (f,dl);have atc:=ahh hdv.right (f,dl);have hdo:=fun(w1:World) (hc:ah wr w1 [])=>ahi (w:=w1) (fun w2 hc2=>(HG.out.aj ((HC.out.trans hc (D:=[]) (by simp)).trans hc2 (D:=[]) (by simp)) (by simp)).four) hdv.right (f:=f) hby hlm (hin.keep hc);have hfe:=fun(w5:World) (hg:oh w5) (h5:fH w5 d c1 x s ran nn F I1) (h6:Sl w5 (.slice B dl.length cb) (bU dl))=>akx hg h5 (by omega) hlm hby h6;have hre:=fun(w5:World) (hg:oh w5) (h5:fH w5 d c1 x s ran nn F I1)=>Yh hg h5;have U9:=hide (show f=true->∀(w5:World),oh w5->fH w5 d c1 x s ran nn F I1->Sl w5 (.slice B dl.length cb) (bU dl)->Calls Tryz.prog 18 #[.pointer (some ⟨d,0,none⟩),.slice B dl.length cb] w5 fun e w'=>∃ A k m F' s' ran' n',e=.returned (.tuple #[.slice A k m,.int .i64 (qZ x (f,dl)).2.2])/\Sl w' (.slice A k m) (bU (qZ x (f,dl)).2.1)/\ah w5 w' (d::F)/\Sub F' F w5/\fH w' d c1 (qZ x (f,dl)).1 s' ran' n' F' I1/\n'<=nn+1 from fun hf=>by subst hf; exact hfe)
     have HRE:=hide (show f=false->∀(w5:World),oh w5->fH w5 d c1 x s ran nn F I1->Calls Tryz.prog 19 #[.pointer (some ⟨d,0,none⟩)] w5 fun e w'=>e=.returned (.int .i64 (qZ x (f,dl)).2.2)/\(qZ x (f,dl)).2.1=[]/\ah w5 w' (d::F)/\∃ F' s',Sub F' F w5/\fH w' d c1 (qZ x (f,dl)).1 s' false nn F' I1 from fun hf w5 h4 h5=>by
      subst hf;refine(hre w5 h4 h5).mono ?_;rintro e w' ⟨rfl,h6,F',h7,h8⟩
      exact⟨rfl,rfl,h6,F',_,h7,h8⟩)
     have kM:=hide hdo;clear hdo hfe hre;generalize qZ x (f,dl)=r at *;obtain⟨y,fr,er⟩:=r;simp only at akB atc
     replace kM:=hide (show ∀ w1,ah wr w1 []->Calls Tryz.prog 17 #[x.val,.agg #[.bool f,.slice B dl.length cb]] w1 fun e w2=>∃ A n c,e=.returned (.tuple #[y.val,.slice A n c,.int .i64 er])/\Sl w2 (.slice A n c) (bU fr)/\(∀ a,A=some a->w1.heap.size<=a.block/\a.block<w2.heap.size)/\ah w1 w2 [] from fun w1 hc=>(kM.out w1 hc).mono (by
      rintro e w2 ⟨A,n,c,rfl,h1,h2,h3,h4⟩
      exact⟨A,n,c,rfl,h1,fun a ha=>⟨h2 a ha,h3 a ha⟩,h4⟩))
     have HZ0:=hide (show 11<=wr.heap.size from Nat.le_trans HG.out.size HC.out.size);have HS0:=hide hsb;have HDX:=hide hdv;have HQ3:=hide q3;have qM:=hide akB;have adV:=hide hsub;have HNJ:=hide hnj;have HBY:=hide hby;clear hd hmem q0 q1 q3 hin HDV hdv hsb akB atc hsub hlm hby hnj;generalize hk:dl.length=k at *;generalize hn:ds.length=n at *;go_wp2_with fail
     go_upto_region 10 with(fail)
     refine iC fG.out _ _ (fun γ=>yP x y fr er f bb off n cv jj S0 k cb B γ) (fun(γ:Gh) L w'=>iP 2 (as8 x y fr er f bb off n cv jj S0 k cb B) oW wr [] γ L w') (fun _=>undef) (by kernel_rfl) [] (by kernel_rfl) (fun p hp γ=>by simp at hp) (by kernel_rfl) ?step ?start ?fin ?ext
     case ext =>
      intro γ L L' w' h hw
      exact iP.ext (fun j hj e he=>h e (by
       match j,hj with
       | 0,_=>simp [oW] at he; rcases he with rfl<;>decide
       | 1,_=>simp [oW] at he; rcases he with rfl | rfl<;>decide
       )) hw
     case step =>
      intro i o ho L av w1 γ hdn ak hW hL hpre K' Q' hK
      match i,ho with
       | 0,ho =>
        injection ho with ho; subst ho;have b4:av.tmps.getD 4 undef=.pointer (some ⟨S0,0,none⟩):=fM ak 4 (by kernel_rfl);clear ak;have hbb:=HS0.out.aj (iP.aj hW) (by simp);have hll:=hbb.lt;have y0:=hbb.cell' (i:=0) rfl;have y1:=hbb.cell' (i:=1) rfl;have y2:=hbb.cell' (i:=2) rfl;have y3:=hbb.cell' (i:=3) rfl;have y4:=hbb.cell' (i:=4) rfl;have y5:=hbb.cell' (i:=5) rfl;have y6:=hbb.cell' (i:=6) rfl;refine au ?_ (hK γ w1 (fun _ _=>rfl) (iP.same hW 0 (by decide))); go_simp; rfl
       | 1,ho =>
        injection ho with ho; subst ho;have b0:av.tmps.getD 0 undef=.slice (some ⟨bb,off,none⟩) n cv:=fM ak 0 (by kernel_rfl);clear ak;refine au ?_ (hK γ w1 (fun _ _=>rfl) (iP.same hW 1 (by decide))); go_simp; rfl
       | 2,ho =>
        injection ho with ho; subst ho;have b7:av.tmps.getD 7 undef=.int .i64 jj:=fM ak 7 (by kernel_rfl);clear ak;refine au ?_ (hK γ w1 (fun _ _=>rfl) (iP.same hW 2 (by decide))); go_simp; rfl
       | 3,ho =>
        injection ho with ho; subst ho;have s1:=aJ ak 35 1 (by kernel_rfl) (hpre ⟨1,.data⟩ (by simp) rfl);have s2:=aJ ak 36 2 (by kernel_rfl) (hpre ⟨2,.data⟩ (by simp) rfl);simp only [yP] at s1 s2;clear ak;have hjn:=HJN.out;have hj1:(jj:Int)<(n:Int):=by omega
        have hj0:(0:Int)<=(jj:Int):=by omega
        refine au ?_ (hK γ w1 (fun _ _=>rfl) (iP.same hW 3 (by decide))); go_simp; rfl
       | 4,ho =>
        injection ho with ho; subst ho;have s3:=aJ ak 37 3 (by kernel_rfl) (hpre ⟨3,.data⟩ (by simp) rfl);simp only [yP] at s3;clear ak;have hc0:=ah.cell (iP.aj hW) Q0.out (by simp);have hc1:=ah.cell (iP.aj hW) Q1.out (by simp);refine au ?_ (hK γ w1 (fun _ _=>rfl) (iP.same hW 4 (by decide))); go_simp; rfl
       | 5,ho =>
        injection ho with ho; subst ho;have s0:=aJ ak 34 0 (by kernel_rfl) (hpre ⟨0,.data⟩ (by simp) rfl);have s4:=aJ ak 38 4 (by kernel_rfl) (hpre ⟨4,.data⟩ (by simp) rfl);simp only [yP] at s0 s4;clear ak;have hm:aX L (oW 0)=0:=by simp [oW,aX,hL]
        have hm2:aX (fun e=>if e=5 then true else L e) (oW 0)=1:=by simp [oW,aX]
        refine gU (f:=17) (args:=#[x.val,.agg #[.bool f,.slice B k cb]]) ?_ (kM.out w1 (iP.aj hW)) ?_
        . go_simp
          rfl
        . rintro e w2 ⟨A,n1,c1,rfl,hsl,hnew,hc⟩
          exact ⟨_,rfl,hK (upd γ 5 (.tuple #[y.val,.slice A n1 c1,.int .i64 er])) w2 (qW hdn [5,6,7,8,9,12,13] (by kernel_rfl) hL (as9 x y fr er f bb off n cv jj S0 k cb B γ _)) (iP.eff (akA x y fr er f bb off n cv jj S0 k cb B) HZ0.out hW 5 0 (by decide) (by decide) hm hm2 (fun F0 hF0 => ⟨(A.map (·.block)).toList,hc.more (by simp),(fun k hk => by
           obtain⟨a,ha,rfl⟩:=as7 hk;exact .inr (hnew a ha).1),(fun k hk=>by
           obtain⟨a,ha,rfl⟩:=as7 hk
           exact(hnew a ha).2),A,n1,c1,rfl,hsl,rfl⟩) (fun q hq hn F h=>by
          match q,hq,hn with
          | 0,_,hn=>exact absurd rfl hn
          | 1,_,hn=>exact h
        ))⟩
       | 6,ho =>
        injection ho with ho; subst ho;have s5:=aJ ak 39 5 (by kernel_rfl) (hpre ⟨5,.data⟩ (by simp) rfl);simp only [yP] at s5;clear ak;refine au ?_ (hK γ w1 (fun _ _=>rfl) (iP.same hW 6 (by decide))); go_simp; rfl
       | 7,ho =>
        injection ho with ho; subst ho;have s6:=aJ ak 33 6 (by kernel_rfl) (hpre ⟨6,.data⟩ (by simp) rfl);simp only [yP] at s6;clear ak;have c5:L 5=true:=hdn 6 _ rfl (hpre ⟨6,.data⟩ (by simp) rfl) ⟨5,.data⟩ (by simp) rfl;obtain⟨F_f,h_f,_,_⟩:=iP.get hW 0 (by decide) (m:=1) (by simp [oW,aX,c5]);obtain⟨A0,n0,c0,e5,_,_⟩:=h_f;rw [e5] at s6;refine au (v:=rZ (γ 5) 0) ?_ (hK γ w1 (fun _ _=>rfl) (iP.same hW 7 (by decide))); rw [e5]; go_simp; first | done | rfl
       | 8,ho =>
        injection ho with ho; subst ho;have s6:=aJ ak 33 6 (by kernel_rfl) (hpre ⟨6,.data⟩ (by simp) rfl);simp only [yP] at s6;clear ak;have c5:L 5=true:=hdn 6 _ rfl (hpre ⟨6,.data⟩ (by simp) rfl) ⟨5,.data⟩ (by simp) rfl;obtain⟨F_f,h_f,_,_⟩:=iP.get hW 0 (by decide) (m:=1) (by simp [oW,aX,c5]);obtain⟨A0,n0,c0,e5,_,_⟩:=h_f;rw [e5] at s6;refine au (v:=rZ (γ 5) 1) ?_ (hK γ w1 (fun _ _=>rfl) (iP.same hW 8 (by decide))); rw [e5]; go_simp; first | done | rfl
       | 9,ho =>
        injection ho with ho; subst ho;have s6:=aJ ak 33 6 (by kernel_rfl) (hpre ⟨6,.data⟩ (by simp) rfl);simp only [yP] at s6;clear ak;have c5:L 5=true:=hdn 6 _ rfl (hpre ⟨6,.data⟩ (by simp) rfl) ⟨5,.data⟩ (by simp) rfl;obtain⟨F_f,h_f,_,_⟩:=iP.get hW 0 (by decide) (m:=1) (by simp [oW,aX,c5]);obtain⟨A0,n0,c0,e5,_,_⟩:=h_f;rw [e5] at s6;refine au (v:=rZ (γ 5) 2) ?_ (hK γ w1 (fun _ _=>rfl) (iP.same hW 9 (by decide))); rw [e5]; go_simp; first | done | rfl
       | 10,ho =>
        injection ho with ho; subst ho;clear ak;have hm:aX L (oW 1)=0:=by simp [oW,aX,hL]
        have n11:L 11=false:=by
         cases h:L 11 with
         | false=>rfl
         | true=>have hx:L 10=true:=(hdn 11 _ rfl h ⟨10,.data⟩ (by simp) rfl); rw [hL] at hx; cases hx
        have hm2:aX (fun e=>if e=10 then true else L e) (oW 1)=1:=by simp [oW,aX,n11]
        refine au (v:=.pointer (some ⟨w1.heap.size,0,none⟩)) (w':=w1.alloc (.cells #[.int .i32 0,.int .i32 0,.int .i32 0,.int .i32 0,.int .i64 0,.int .i64 0,.int .i64 0] 46)) ?_ (hK (upd γ 10 (.pointer (some ⟨w1.heap.size,0,none⟩))) _ (qW hdn [10] (by kernel_rfl) hL (aoo x y fr er f bb off n cv jj S0 k cb B γ _)) (iP.eff (akA x y fr er f bb off n cv jj S0 k cb B) HZ0.out hW 10 1 (by decide) (by decide) hm hm2 (FK.make (st:=(fun _=>[.int .i32 y.q.a.v,.int .i32 y.q.b.v,.int .i32 y.q.c.v,.int .i32 y.q.d.v,.int .i64 y.s,.int .i64 y.f,.int .i64 y.g]))) (fun q hq hn F h=>by
         match q,hq,hn with
         | 0,_,hn=>exact h
         | 1,_,hn=>exact absurd rfl hn
        )))
        . go_simp
       | 11,ho =>
        injection ho with ho; subst ho;have s10:=aJ ak 8 10 (by kernel_rfl) (hpre ⟨10,.data⟩ (by simp) rfl);have s7:=aJ ak 40 7 (by kernel_rfl) (hpre ⟨7,.data⟩ (by simp) rfl);simp only [yP] at s10 s7;clear ak;have c5:L 5=true:=hpre ⟨5,.chain⟩ (by simp) rfl;obtain⟨F_f,h_f,_,_⟩:=iP.get hW 0 (by decide) (m:=1) (by simp [oW,aX,c5]);obtain⟨A0,n0,c0,e5,_,_⟩:=h_f;rw [e5] at s7;replace s7:av.tmps.getD 40 undef=.agg #[.int .i32 y.q.a.v,.int .i32 y.q.b.v,.int .i32 y.q.c.v,.int .i32 y.q.d.v,.int .i64 y.s,.int .i64 y.f,.int .i64 y.g]:=s7;have c10:L 10=true:=hpre ⟨10,.data⟩ (by simp) rfl;have hm:aX L (oW 1)=1:=by simp [oW,aX,hL,c10]
        have hm2:aX (fun e=>if e=11 then true else L e) (oW 1)=2:=by simp [oW,aX,c10]
        obtain⟨F,hF,hF2,_⟩:=iP.get hW 1 (by decide) hm;obtain⟨a,ha,rfl,hb⟩:=hF;have hal:=hb.lt;have f0:=hb.frozen 0;have z0:=hb.cell' (i:=0) rfl;have f1:=hb.frozen 1;have z1:=hb.cell' (i:=1) rfl;have f2:=hb.frozen 2;have z2:=hb.cell' (i:=2) rfl;have f3:=hb.frozen 3;have z3:=hb.cell' (i:=3) rfl;have f4:=hb.frozen 4;have z4:=hb.cell' (i:=4) rfl;have f5:=hb.frozen 5;have z5:=hb.cell' (i:=5) rfl;have f6:=hb.frozen 6;have z6:=hb.cell' (i:=6) rfl;rw [ha] at s10;refine uf (w':=(((((((w1.setCell ⟨a,0,none⟩ (.int .i32 y.q.a.v)).setCell ⟨a,1,none⟩ (.int .i32 y.q.b.v)).setCell ⟨a,2,none⟩ (.int .i32 y.q.c.v)).setCell ⟨a,3,none⟩ (.int .i32 y.q.d.v)).setCell ⟨a,4,none⟩ (.int .i64 y.s)).setCell ⟨a,5,none⟩ (.int .i64 y.f)).setCell ⟨a,6,none⟩ (.int .i64 y.g))) ?_ (hK γ _ (fun _ _=>rfl) (iP.eff (γ':=γ) (akA x y fr er f bb off n cv jj S0 k cb B) HZ0.out hW 11 1 (by decide) (by decide) hm hm2 (fun F0 hF0=>?_) (fun q hq hn F h=>h)))
        . go_simp
        . obtain⟨a0,ha0,rfl,hb0⟩:=hF0
          rw [ha] at ha0;injection ha0 with ha0; injection ha0 with ha0; injection ha0 with ha0;subst ha0;have hcc:=((((((((ah.refl w1 [a]).setCell ⟨a,0,none⟩ (.int .i32 y.q.a.v) (.inl (List.mem_singleton.2 rfl))).setCell ⟨a,1,none⟩ (.int .i32 y.q.b.v) (.inl (List.mem_singleton.2 rfl))).setCell ⟨a,2,none⟩ (.int .i32 y.q.c.v) (.inl (List.mem_singleton.2 rfl))).setCell ⟨a,3,none⟩ (.int .i32 y.q.d.v) (.inl (List.mem_singleton.2 rfl))).setCell ⟨a,4,none⟩ (.int .i64 y.s) (.inl (List.mem_singleton.2 rfl))).setCell ⟨a,5,none⟩ (.int .i64 y.f) (.inl (List.mem_singleton.2 rfl))).setCell ⟨a,6,none⟩ (.int .i64 y.g) (.inl (List.mem_singleton.2 rfl)))
          refine⟨[a],hcc,Sub.refl _ _,fun k hk=>?_,a,ha,rfl,(((((((hb.aK 0 (.int .i32 y.q.a.v)).aK 1 (.int .i32 y.q.b.v)).aK 2 (.int .i32 y.q.c.v)).aK 3 (.int .i32 y.q.d.v)).aK 4 (.int .i64 y.s)).aK 5 (.int .i64 y.f)).aK 6 (.int .i64 y.g))⟩;have hk:k=a:=by simpa using hk
          subst hk;exact Nat.lt_of_lt_of_le hal hcc.size
       | 12,ho =>
        injection ho with ho; subst ho;have s8:=aJ ak 41 8 (by kernel_rfl) (hpre ⟨8,.data⟩ (by simp) rfl);simp only [yP] at s8;clear ak;refine au ?_ (hK γ w1 (fun _ _=>rfl) (iP.same hW 12 (by decide))); go_simp; rfl
       | 13,ho =>
        injection ho with ho; subst ho;have s9:=aJ ak 42 9 (by kernel_rfl) (hpre ⟨9,.data⟩ (by simp) rfl);simp only [yP] at s9;clear ak;refine au ?_ (hK γ w1 (fun _ _=>rfl) (iP.same hW 13 (by decide))); go_simp; rfl
       | _+14,ho=>cases ho
     case start =>
      refine iP.start fun k hk=>?_
      match k,hk with
      | 0,_=>exact rfl
      | 1,_=>exact rfl
     case fin =>
     intro γ W2 hW;obtain⟨F3,F4,hf,hbk,hap⟩:=iP.apart hW 0 1 (by decide) (by decide) (by decide) (m:=1) (m':=2) rfl rfl;obtain⟨A1,n1,m1,e5,hsl1,rfl⟩:=hf;obtain⟨a,e10,rfl,hba⟩:=hbk
     have hA1:∀ b,A1=some b->wr.heap.size<=b.block:=fun b hb=>by
      obtain⟨F3,hf3,_,hs3⟩:=iP.get hW 0 (by decide) (m:=1) rfl;obtain⟨A3,n3,c3,e3,_,rfl⟩:=hf3;rw [e5] at e3;have:A1=A3:=by injection e3 with e3; injection e3 with e3; injection e3 with _ e3; injection e3 with e3 _; injection e3 with e3
      subst this;rcases hs3 b.block (by rw [hb]; simp) with h | h
      . cases h
      . exact h
     have ha1:wr.heap.size<=a:=by
      obtain⟨F3,hf3,_,hs3⟩:=iP.get hW 1 (by decide) (m:=2) rfl;obtain⟨a3,e3,rfl,_⟩:=hf3;rw [e10] at e3;have:a=a3:=by injection e3 with e3; injection e3 with e3; injection e3 with e3
      subst this;rcases hs3 _ (List.mem_singleton.2 rfl) with h | h
      . cases h
      . exact h
     have hcW:=hW.aj;rw [jc,gy,iM];simp only [List.map_cons,List.map_nil];rw [ata];simp only [yP];rw [e5,e10];rw [show rZ (.tuple #[y.val,.slice A1 n1 m1,.int .i64 er]) 1=.slice A1 n1 m1 from rfl,show rZ (.tuple #[y.val,.slice A1 n1 m1,.int .i64 er]) 2=.int .i64 er from rfl,show rZ (.tuple #[y.val,.slice A1 n1 m1,.int .i64 er]) 0=y.val from rfl];have hsW:=HS0.out.aj hcW (by simp);have atf:=HS0.out.lt;have HSW:=hide hsW;have akC:=hide atf;have HSL:=hide hsl1;have HCW:=hide hcW;have HA1:=hide hA1;have z0:=hba.cell' (i:=0) rfl;have f0:=hsW.frozen 0;have y0:=hsW.cell' (i:=0) rfl;have z1:=hba.cell' (i:=1) rfl;have f1:=hsW.frozen 1;have y1:=hsW.cell' (i:=1) rfl;have z2:=hba.cell' (i:=2) rfl;have f2:=hsW.frozen 2;have y2:=hsW.cell' (i:=2) rfl;have z3:=hba.cell' (i:=3) rfl;have f3:=hsW.frozen 3;have y3:=hsW.cell' (i:=3) rfl;have z4:=hba.cell' (i:=4) rfl;have f4:=hsW.frozen 4;have y4:=hsW.cell' (i:=4) rfl;have z5:=hba.cell' (i:=5) rfl;have f5:=hsW.frozen 5;have y5:=hsW.cell' (i:=5) rfl;have z6:=hba.cell' (i:=6) rfl;have f6:=hsW.frozen 6;have y6:=hsW.cell' (i:=6) rfl;have yl:=hsW.lt;clear hW hsl1 hcW hA1 ha1 hap hba hsW atf;go_upto_region 12 with(fail)
     change Code.wp _ _ _ _ (Du W2 S0 (.int .i32 y.q.a.v) (.int .i32 y.q.b.v) (.int .i32 y.q.c.v) (.int .i32 y.q.d.v) (.int .i64 y.s) (.int .i64 y.f) (.int .i64 y.g));have hcf:=FW W2 S0 (.int .i32 y.q.a.v) (.int .i32 y.q.b.v) (.int .i32 y.q.c.v) (.int .i32 y.q.d.v) (.int .i64 y.s) (.int .i64 y.f) (.int .i64 y.g);have kf:=FX HSW.out (.int .i32 y.q.a.v) (.int .i32 y.q.b.v) (.int .i32 y.q.c.v) (.int .i32 y.q.d.v) (.int .i64 y.s) (.int .i64 y.f) (.int .i64 y.g);generalize Du W2 S0 (.int .i32 y.q.a.v) (.int .i32 y.q.b.v) (.int .i32 y.q.c.v) (.int .i32 y.q.d.v) (.int .i64 y.s) (.int .i64 y.f) (.int .i64 y.g)=wf at *;have hwf:ah wr wf [S0]:=(HCW.out.more (by simp)).trans hcf (fun k hk=>.inl hk);have axG:w.heap.size<=S0:=by have:=HZ1.out; omega
     have Ym:ah w wf []:=HC.out.trans hwf (fun k hk=>.inr (by simp at hk; subst hk; exact axG))
     have NM:∀ k∈d::(F++I1),k∉[S0]:=fun k hk hm=>by
      have hm:k=S0:=by simpa using hm
      subst hm;rcases List.mem_cons.1 hk with h | h
      . have:=HL1.out d (by simp); have:=HZ1.out; omega
      . rcases List.mem_append.1 h with h | h
        . rcases adV.out _ h with h | h
          . have:=HL1.out _ (List.mem_cons_of_mem _ (List.mem_append_left _ h)); have:=HZ1.out; omega
          . omega
        . have:=HL1.out _ (List.mem_cons_of_mem _ (List.mem_append_right _ h)); have:=HZ1.out; omega
     have hdf:=HDX.out.axF hwf NM (fun k hk=>by
      have hk:k=S0:=by simpa using hk
      have:=HG.out.size
      omega)
     have atg:=HSL.out.aj hcf (fun A n c e hm=>by
      injection e with e;have hm:A.block=S0:=by simpa using hm
      have:=HA1.out A (by rw [<- e]);have:=akC.out
      omega)
     have hlow:∀ k∈d::F,k<wr.heap.size:=fun k hk=>HDX.out.low k (Yl hk);have p0:=Ym.cell W0.out (by simp);have p1:=Ym.cell W1.out (by simp);have HDF:=hide hdf;have CU:=hide atg;have HKF:=hide kf;have KI:=hide Ym;have ath:=hide hlow;have HZF:=hide (show wr.heap.size<=wf.heap.size from hwf.size)
     have HFW:=hide (show ∀ k∈d::F,w.heap.size<=k from fun k hk=>by
      rcases List.mem_cons.1 hk with h | h
      . subst h; exact jR.out k (by simp)
      . rcases adV.out _ h with h | h
        . exact jR.out _ (List.mem_cons_of_mem _ (List.mem_append_left _ h))
        . omega)
     have HSF:=hide (show S0∉d::F from fun hm=>NM S0 (Yl hm) (by simp));have Wp:=hide (HG.out.aj Ym (by simp));have hst:∃ st,strOfNums (nI fr)=st:=⟨_,rfl⟩
     obtain⟨st,hst⟩:=hst;have HST:=hide hst;clear hwf Ym NM hdf atg hlow hcf kf hst kM Q0 Q1 e5 e10 y0 y1 y2 y3 y4 y5 y6 f0 f1 f2 f3 f4 f5 f6 z0 z1 z2 z3 z4 z5 z6 yl
     cases f with
     | true =>
      have hK:=U9.out rfl wf Wp.out HDF.out (HQ3.out.keep KI.out);have HK:=hide hK;clear hK U9 HRE;go_wp2_with fail
      go_at_call 18;refine HK.out.mono ?_;rintro e w6 ⟨Ab,kb,mb,F6,s6,ran6,n6,rfl,hb6,hc6,hs6,hd6,hn6⟩;have qN:=hide (KI.out.trans hc6 (fun k hk=>.inr (HFW.out k hk)));have HDY:=hide hd6;have HSY:=hide (HKF.out.aj hc6 HSF.out)
      have Yn:=CU.out.aj hc6 (fun A n c e hm=>by
       injection e with e;have h1:=ath.out A.block hm;have h2:=HA1.out A (by rw [<- e])
       omega)
      have HBS:=hide hb6;have HSU:=hide (show ∀ k∈F6,k∈F1\/S0<k from fun k hk=>(hs6 k hk).elim (fun h=>adV.out k h) (fun h=>.inr (by have:=akC.out; have:=HZF.out; omega)));replace CU:=hide Yn;have HN6:=hide hn6;clear hc6 hd6 hs6 Yn hb6 hn6 HK HKF HDF;go_wp2_with fail
      refine iC fG.out _ _ (fun(_:Unit)=>qB y er st d kb mb n1 m1 Ab A1 ()) (fun(_:Unit) L w'=>ah w6 w' []) () (by kernel_rfl) [(5,false),(10,false)] (by kernel_rfl) (fun p hp γ=>by simp at hp; rcases hp with rfl | rfl<;>rfl) (by kernel_rfl) ?step ?start ?fin ?ext
      case start=>exact(ah.refl _ []).drewN _
      case ext=>exact fun γ L L' w' h hw=>hw
      case step =>
       intro i_ o_ ho_ L a w1 γ hdn ak hW hL hpre K' Q' hK;have hW:ah w6 w1 []:=hW
       match i_,ho_ with
        | 0,ho =>
         injection ho with ho; subst ho;have b11:a.tmps.getD 11 undef=.slice Ab kb mb:=fM ak 11 (by kernel_rfl);clear ak;refine au ?_ (hK () w1 (fun _ _=>rfl) hW); go_simp; rfl
        | 1,ho =>
         injection ho with ho; subst ho;have s0:=aJ ak 61 0 (by kernel_rfl) (hpre ⟨0,.data⟩ (by simp) rfl);simp only [qB] at s0;clear ak;have k1:=JM (HBS.out.keep hW) qM.out;rw [HST.out] at k1;refine au ?_ (hK () w1 (fun _ _=>rfl) hW); go_simp; rfl
        | 2,ho =>
         injection ho with ho; subst ho;have b9:a.tmps.getD 9 undef=.slice A1 n1 m1:=fM ak 9 (by kernel_rfl);clear ak;refine au ?_ (hK () w1 (fun _ _=>rfl) hW); go_simp; rfl
        | 3,ho =>
         injection ho with ho; subst ho;have s2:=aJ ak 63 2 (by kernel_rfl) (hpre ⟨2,.data⟩ (by simp) rfl);simp only [qB] at s2;clear ak;have k1:=JM (CU.out.keep hW) qM.out;rw [HST.out] at k1;refine au ?_ (hK () w1 (fun _ _=>rfl) hW); go_simp; rfl
        | 4,ho =>
         injection ho with ho; subst ho;have s1:=aJ ak 62 1 (by kernel_rfl) (hpre ⟨1,.data⟩ (by simp) rfl);have s3:=aJ ak 64 3 (by kernel_rfl) (hpre ⟨3,.data⟩ (by simp) rfl);simp only [qB] at s1 s3;clear ak;have ss:=Yc;refine au (v:=.bool false) ?_ (hK () w1 (fun _ _=>rfl) hW); go_simp
        | 5,ho =>
         injection ho with ho; subst ho;have s4:=aJ ak 65 4 (by kernel_rfl) (hpre ⟨4,.data⟩ (by simp) rfl);simp only [qB] at s4;clear ak;refine au ?_ (hK () w1 (fun _ _=>rfl) hW); go_simp; rfl
        | 6,ho =>
         injection ho with ho; subst ho;have b10:a.tmps.getD 10 undef=.int .i64 er:=fM ak 10 (by kernel_rfl);clear ak;refine au ?_ (hK () w1 (fun _ _=>rfl) hW); go_simp; rfl
        | 7,ho =>
         injection ho with ho; subst ho;have b12:a.tmps.getD 12 undef=.int .i64 er:=fM ak 12 (by kernel_rfl);clear ak;refine au ?_ (hK () w1 (fun _ _=>rfl) hW); go_simp; rfl
        | 8,ho =>
         injection ho with ho; subst ho;have s6:=aJ ak 67 6 (by kernel_rfl) (hpre ⟨6,.data⟩ (by simp) rfl);have s7:=aJ ak 68 7 (by kernel_rfl) (hpre ⟨7,.data⟩ (by simp) rfl);simp only [qB] at s6 s7;clear ak;refine au (v:=.bool false) ?_ (hK () w1 (fun _ _=>rfl) hW); go_simp; try rfl
        | 9,ho =>
         injection ho with ho; subst ho;have s5:=aJ ak 66 5 (by kernel_rfl) (hpre ⟨5,.data⟩ (by simp) rfl);have s8:=aJ ak 69 8 (by kernel_rfl) (hpre ⟨8,.data⟩ (by simp) rfl);simp only [qB] at s5 s8;clear ak;refine au ?_ (hK () w1 (fun _ _=>rfl) hW); go_simp; rfl
        | 10,ho =>
         injection ho with ho; subst ho;have s9:=aJ ak 70 9 (by kernel_rfl) (hpre ⟨9,.data⟩ (by simp) rfl);simp only [qB] at s9;clear ak;refine au ?_ (hK () w1 (fun _ _=>rfl) hW); go_simp; rfl
        | 11,ho =>
         injection ho with ho; subst ho;have b3:a.tmps.getD 3 undef=.pointer (some ⟨d,0,none⟩):=fM ak 3 (by kernel_rfl);clear ak;refine au ?_ (hK () w1 (fun _ _=>rfl) hW); go_simp; rfl
        | 12,ho =>
         injection ho with ho; subst ho;have s11:=aJ ak 72 11 (by kernel_rfl) (hpre ⟨11,.data⟩ (by simp) rfl);simp only [qB] at s11;clear ak;refine gU (f:=20) (args:=#[.pointer (some ⟨d,0,none⟩)]) ?_ (Bv (HDY.out.bJ hW)) ?_
         . go_simp
         rintro e w2 ⟨rfl,hc2⟩;exact⟨_,rfl,hK () w2 (fun _ _=>rfl) (hW.trans hc2 (by simp))⟩
        | 13,ho =>
         injection ho with ho; subst ho;have b4:a.tmps.getD 4 undef=.pointer (some ⟨S0,0,none⟩):=fM ak 4 (by kernel_rfl);clear ak;have hsb:=HSY.out.aj hW (by simp);have y0:=hsb.cell' (i:=0) rfl;have y1:=hsb.cell' (i:=1) rfl;have y2:=hsb.cell' (i:=2) rfl;have y3:=hsb.cell' (i:=3) rfl;have y4:=hsb.cell' (i:=4) rfl;have y5:=hsb.cell' (i:=5) rfl;have y6:=hsb.cell' (i:=6) rfl;refine au ?_ (hK () w1 (fun _ _=>rfl) hW); go_simp; rfl
        | 14,ho =>
         injection ho with ho; subst ho;have s12:=aJ ak 73 12 (by kernel_rfl) (hpre ⟨12,.data⟩ (by simp) rfl);have s13:=aJ ak 74 13 (by kernel_rfl) (hpre ⟨13,.data⟩ (by simp) rfl);simp only [qB] at s12 s13;clear ak;have hqs:=eqS;refine au (v:=.bool false) ?_ (hK () w1 (fun _ _=>rfl) hW); go_simp
        | 15,ho =>
         injection ho with ho; subst ho;have s10:=aJ ak 71 10 (by kernel_rfl) (hpre ⟨10,.data⟩ (by simp) rfl);have s14:=aJ ak 75 14 (by kernel_rfl) (hpre ⟨14,.data⟩ (by simp) rfl);simp only [qB] at s10 s14;clear ak;refine au ?_ (hK () w1 (fun _ _=>rfl) hW); go_simp; rfl
        | _+16,ho=>cases ho
      case fin =>
       intro γ w7 hW;have Yo:=hide (show ah w6 w7 [] from hW);clear hW;rw [jc,gy,iM];simp only [List.map_cons,List.map_nil];rw [ahk];simp only [qB];go_wp2;go_roundw
       case rel=>exact⟨jj+1,by omega,by go_num,hide (qN.out.trans Yo.out (by simp)),hide ⟨y,_,_,_,_,by have:=HN6.out; have:=HNJ.out; omega,HDY.out.bJ Yo.out,HSY.out.aj Yo.out (by simp),HSU.out⟩⟩
       case measure=>simp [intOf]; omega
     | false =>
      have hK:=HRE.out rfl wf Wp.out HDF.out;have HK:=hide hK;clear hK U9 HRE;go_wp2_with fail
      go_at_call 19;refine HK.out.mono ?_;rintro e w6 ⟨rfl,hfr,hc6,F6,s6,hs6,hd6⟩;subst hfr;have qN:=hide (KI.out.trans hc6 (fun k hk=>.inr (HFW.out k hk)));have HDY:=hide hd6;have HSY:=hide (HKF.out.aj hc6 HSF.out)
      have Yn:=CU.out.aj hc6 (fun A n c e hm=>by
       injection e with e;have h1:=ath.out A.block hm;have h2:=HA1.out A (by rw [<- e])
       omega)
      have HBS:=hide (IE w6);have HSU:=hide (show ∀ k∈F6,k∈F1\/S0<k from fun k hk=>(hs6 k hk).elim (fun h=>adV.out k h) (fun h=>.inr (by have:=akC.out; have:=HZF.out; omega)));replace CU:=hide Yn;clear hc6 hd6 hs6 Yn HK HKF HDF;go_wp2_with fail
      refine iC fG.out _ _ (fun(_:Unit)=>qB y er st d 0 0 n1 m1 none A1 ()) (fun(_:Unit) L w'=>ah w6 w' []) () (by kernel_rfl) [(5,false),(10,false)] (by kernel_rfl) (fun p hp γ=>by simp at hp; rcases hp with rfl | rfl<;>rfl) (by kernel_rfl) ?step ?start ?fin ?ext
      case start=>exact(ah.refl _ []).drewN _
      case ext=>exact fun γ L L' w' h hw=>hw
      case step =>
       intro i_ o_ ho_ L a w1 γ hdn ak hW hL hpre K' Q' hK;have hW:ah w6 w1 []:=hW
       match i_,ho_ with
        | 0,ho =>
         injection ho with ho; subst ho;have b11:a.tmps.getD 11 undef=.slice none 0 0:=fM ak 11 (by kernel_rfl);clear ak;refine au ?_ (hK () w1 (fun _ _=>rfl) hW); go_simp; rfl
        | 1,ho =>
         injection ho with ho; subst ho;have s0:=aJ ak 61 0 (by kernel_rfl) (hpre ⟨0,.data⟩ (by simp) rfl);simp only [qB] at s0;clear ak;have k1:=JM (HBS.out.keep hW) qM.out;rw [HST.out] at k1;refine au ?_ (hK () w1 (fun _ _=>rfl) hW); go_simp; rfl
        | 2,ho =>
         injection ho with ho; subst ho;have b9:a.tmps.getD 9 undef=.slice A1 n1 m1:=fM ak 9 (by kernel_rfl);clear ak;refine au ?_ (hK () w1 (fun _ _=>rfl) hW); go_simp; rfl
        | 3,ho =>
         injection ho with ho; subst ho;have s2:=aJ ak 63 2 (by kernel_rfl) (hpre ⟨2,.data⟩ (by simp) rfl);simp only [qB] at s2;clear ak;have k1:=JM (CU.out.keep hW) qM.out;rw [HST.out] at k1;refine au ?_ (hK () w1 (fun _ _=>rfl) hW); go_simp; rfl
        | 4,ho =>
         injection ho with ho; subst ho;have s1:=aJ ak 62 1 (by kernel_rfl) (hpre ⟨1,.data⟩ (by simp) rfl);have s3:=aJ ak 64 3 (by kernel_rfl) (hpre ⟨3,.data⟩ (by simp) rfl);simp only [qB] at s1 s3;clear ak;have ss:=Yc;refine au (v:=.bool false) ?_ (hK () w1 (fun _ _=>rfl) hW); go_simp
        | 5,ho =>
         injection ho with ho; subst ho;have s4:=aJ ak 65 4 (by kernel_rfl) (hpre ⟨4,.data⟩ (by simp) rfl);simp only [qB] at s4;clear ak;refine au ?_ (hK () w1 (fun _ _=>rfl) hW); go_simp; rfl
        | 6,ho =>
         injection ho with ho; subst ho;have b10:a.tmps.getD 10 undef=.int .i64 er:=fM ak 10 (by kernel_rfl);clear ak;refine au ?_ (hK () w1 (fun _ _=>rfl) hW); go_simp; rfl
        | 7,ho =>
         injection ho with ho; subst ho;have b12:a.tmps.getD 12 undef=.int .i64 er:=fM ak 12 (by kernel_rfl);clear ak;refine au ?_ (hK () w1 (fun _ _=>rfl) hW); go_simp; rfl
        | 8,ho =>
         injection ho with ho; subst ho;have s6:=aJ ak 67 6 (by kernel_rfl) (hpre ⟨6,.data⟩ (by simp) rfl);have s7:=aJ ak 68 7 (by kernel_rfl) (hpre ⟨7,.data⟩ (by simp) rfl);simp only [qB] at s6 s7;clear ak;refine au (v:=.bool false) ?_ (hK () w1 (fun _ _=>rfl) hW); go_simp; try rfl
        | 9,ho =>
         injection ho with ho; subst ho;have s5:=aJ ak 66 5 (by kernel_rfl) (hpre ⟨5,.data⟩ (by simp) rfl);have s8:=aJ ak 69 8 (by kernel_rfl) (hpre ⟨8,.data⟩ (by simp) rfl);simp only [qB] at s5 s8;clear ak;refine au ?_ (hK () w1 (fun _ _=>rfl) hW); go_simp; rfl
        | 10,ho =>
         injection ho with ho; subst ho;have s9:=aJ ak 70 9 (by kernel_rfl) (hpre ⟨9,.data⟩ (by simp) rfl);simp only [qB] at s9;clear ak;refine au ?_ (hK () w1 (fun _ _=>rfl) hW); go_simp; rfl
        | 11,ho =>
         injection ho with ho; subst ho;have b3:a.tmps.getD 3 undef=.pointer (some ⟨d,0,none⟩):=fM ak 3 (by kernel_rfl);clear ak;refine au ?_ (hK () w1 (fun _ _=>rfl) hW); go_simp; rfl
        | 12,ho =>
         injection ho with ho; subst ho;have s11:=aJ ak 72 11 (by kernel_rfl) (hpre ⟨11,.data⟩ (by simp) rfl);simp only [qB] at s11;clear ak;refine gU (f:=20) (args:=#[.pointer (some ⟨d,0,none⟩)]) ?_ (Bv (HDY.out.bJ hW)) ?_
         . go_simp
         rintro e w2 ⟨rfl,hc2⟩;exact⟨_,rfl,hK () w2 (fun _ _=>rfl) (hW.trans hc2 (by simp))⟩
        | 13,ho =>
         injection ho with ho; subst ho;have b4:a.tmps.getD 4 undef=.pointer (some ⟨S0,0,none⟩):=fM ak 4 (by kernel_rfl);clear ak;have hsb:=HSY.out.aj hW (by simp);have y0:=hsb.cell' (i:=0) rfl;have y1:=hsb.cell' (i:=1) rfl;have y2:=hsb.cell' (i:=2) rfl;have y3:=hsb.cell' (i:=3) rfl;have y4:=hsb.cell' (i:=4) rfl;have y5:=hsb.cell' (i:=5) rfl;have y6:=hsb.cell' (i:=6) rfl;refine au ?_ (hK () w1 (fun _ _=>rfl) hW); go_simp; rfl
        | 14,ho =>
         injection ho with ho; subst ho;have s12:=aJ ak 73 12 (by kernel_rfl) (hpre ⟨12,.data⟩ (by simp) rfl);have s13:=aJ ak 74 13 (by kernel_rfl) (hpre ⟨13,.data⟩ (by simp) rfl);simp only [qB] at s12 s13;clear ak;have hqs:=eqS;refine au (v:=.bool false) ?_ (hK () w1 (fun _ _=>rfl) hW); go_simp
        | 15,ho =>
         injection ho with ho; subst ho;have s10:=aJ ak 71 10 (by kernel_rfl) (hpre ⟨10,.data⟩ (by simp) rfl);have s14:=aJ ak 75 14 (by kernel_rfl) (hpre ⟨14,.data⟩ (by simp) rfl);simp only [qB] at s10 s14;clear ak;refine au ?_ (hK () w1 (fun _ _=>rfl) hW); go_simp; rfl
        | _+16,ho=>cases ho
      case fin =>
       intro γ w7 hW;have Yo:=hide (show ah w6 w7 [] from hW);clear hW;rw [jc,gy,iM];simp only [List.map_cons,List.map_nil];rw [ahk];simp only [qB];go_wp2;go_roundw
       case rel=>exact⟨jj+1,by omega,by go_num,hide (qN.out.trans Yo.out (by simp)),hide ⟨y,_,_,_,_,by have:=HNJ.out; omega,HDY.out.bJ Yo.out,HSY.out.aj Yo.out (by simp),HSU.out⟩⟩
       case measure=>simp [intOf]; omega
   . have hjl:jj=ds.length:=by omega
     clear hlt;have haw:=Gy (HG.out.aj HC.out (by simp));have HAW:=hide haw;clear haw;go_wp2_with fail
     go_at_call 15;refine HAW.out.mono ?_;rintro e wz ⟨rfl,hcz⟩;have HCZ:=hide (HC.out.trans hcz (D:=[]) (by simp));clear hcz;go_wp2;go_ret;exact⟨rfl,HCZ.out⟩
