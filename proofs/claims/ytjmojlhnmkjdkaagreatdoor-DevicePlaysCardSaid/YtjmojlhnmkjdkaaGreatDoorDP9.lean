/- Texts of this claim, side by side. -/
import Derived.Test.YtjmojlhnmkjdkaaGreatDoorMkFD
import Derived.Test.YtjmojlhnmkjdkaaGreatDoorDP8
import Derived.Deep.Cut
import Derived.Test.YtjmojlhnmkjdkaaGreatDoorDP10
set_option linter.unusedVariables false
set_option maxRecDepth 100000
set_option maxHeartbeats 8000000
namespace Go.Proofs.YtjmojlhnmkjdkaaGreatDoor
section
open Go Go.RowKit Go.Deep Go.Maps Ab Xi
attribute [local go_sem] Oper.semAt_some
def W2 (i1 i2:Nat) (A B C:World->Prop) (L:Nat->Bool) (w:World):Prop:=match L i2 with
 | true=>C w
 | false=>match L i1 with
  | true=>B w
  | false=>A w
section
variable {i1 i2:Nat} {A B C:World->Prop} {L L':Nat->Bool} {w w':World}
theorem W2.a(h:W2 i1 i2 A B C L w)(h1:L i1=false)(h2:L i2=false):A w:=by unfold W2 at h; rw [h2,h1] at h; exact h
theorem W2.b(h:W2 i1 i2 A B C L w)(h1:L i1=true)(h2:L i2=false):B w:=by unfold W2 at h; rw [h2,h1] at h; exact h
theorem W2.keep{i:Nat}(h1:i≠i1)(h2:i≠i2)(h:W2 i1 i2 A B C L w):W2 i1 i2 A B C (fun j=>if j=i then true else L j) w:=by
 unfold W2 at h ⊢;simp only [if_neg (Ne.symm h1),if_neg (Ne.symm h2)];exact h
theorem W2.ao1(e:i2≠i1)(h2:L i2=false)(h:B w'):W2 i1 i2 A B C (fun j=>if j=i1 then true else L j) w':=by
 unfold W2;simp only [if_neg e,h2,if_true];exact h
theorem W2.ao2(h:C w'):W2 i1 i2 A B C (fun j=>if j=i2 then true else L j) w':=by unfold W2; simp only [if_true]; exact h
theorem W2.ext(h1:L i1=L' i1)(h2:L i2=L' i2)(h:W2 i1 i2 A B C L w):W2 i1 i2 A B C L' w:=by unfold W2 at h ⊢; rw [<- h1,<- h2]; exact h
end
def Gn (b pp names used n:Nat) (sec:Bool):Nat->Value
 | 0=>.pointer (some ⟨b,0,none⟩)
 | 1=>.pointer (some ⟨b,0,none⟩)
 | 2=>.pointer (some ⟨b,1,none⟩)
 | 3=>.pointer (some ⟨pp,0,none⟩)
 | 4=>.pointer (some ⟨b,0,none⟩)
 | 5=>.string ⟨(118::oI (names+1)).toArray⟩
 | 6=>.int .i64 (n:Int)
 | 7=>.bool sec
 | 8=>.tuple #[.int .i64 (used:Int),.int .i64 0]
 | 9=>.tuple #[.int .i64 (used:Int),.int .i64 0]
 | 10=>.int .i64 (used:Int)
 | 11=>.int .i64 0
 | 12=>.int .i64 (used:Int)
 | 13=>.int .i64 0
 | _=>undef
theorem ao3(v:Nat->Value)(t0 t1 t2 t3 t4 t5 t6 t7 t8 t9 t10 t11 t12 t13 t14 t15 t16 t17 t18 t19 t20 t21 t22 t23 t24 t25 t26 t27 t28 t29 t30 t31 t32 t33 t34 t35:Value):oK v (some 11::some 12::some 13::some 14::some 15::some 16::some 17::some 18::some 19::some 10::some 20::some 21::some 7::some 8::[]) 0 (t0::t1::t2::t3::t4::t5::t6::t7::t8::t9::t10::t11::t12::t13::t14::t15::t16::t17::t18::t19::t20::t21::t22::t23::t24::t25::t26::t27::t28::t29::t30::t31::t32::t33::t34::t35::[])=(t0::t1::t2::t3::t4::t5::t6::v 12::v 13::t9::v 9::v 0::v 1::v 2::v 3::v 4::v 5::v 6::v 7::v 8::v 10::v 11::t22::t23::t24::t25::t26::t27::t28::t29::t30::t31::t32::t33::t34::t35::[]):=by kernel_rfl
def NG(s:KS)(n:Nat)(sec:Bool):KS:={ s with rr:=(s.names+1,n,sec)::s.rr,used:=s.used+n,names:=s.names+1 }
theorem DT{s:KS}(h:s.WF){n:Nat}{sec:Bool}(hn:s.names+1<=100000)(h1:1<=n)(h2:s.used+n<=2048):(NG s n sec).WF where
 nc:=h.nc
 used:=h2
 names:=hn
 cap:=Nat.succ_le_succ h.cap
 reg:=fun p hp=>by
  rcases List.mem_cons.1 hp with rfl | hp
  . exact Nat.le_refl _
  . exact Nat.le_succ_of_le (h.reg p hp)
 nt:=h.nt
 rt:=Nat.le_trans h.rt (Nat.le_add_right _ _)
 code:=h.code
 defs:=Nat.le_succ_of_le h.defs
 lab:=fun p hp=>Nat.le_succ_of_le (h.lab p hp)
 uses:=h.uses
 data:=Nat.le_trans h.data (Nat.le_add_right _ _)
 cons:=Nat.le_trans h.cons (Nat.le_add_right _ _)
 ri:=Nat.le_trans h.ri (Nat.le_add_right _ _)
 ro:=h.ro
 dep:=h.dep
theorem _root_.Go.Proofs.YtjmojlhnmkjdkaaGreatDoor.Ab.KS.WF.rs {s:KS} (h:s.WF) (t:Tr Bool):({ s with rs:=t }:KS).WF:={ h with }
theorem NH(b:Bool):∀(n a:Nat) (t:Tr Bool) (x:Nat),a+n<1000000->(o7 b n a t).get x=if a<=x/\x<a+n then some b else t.get x
 | 0,a,t,x,h=>by
  rw [if_neg (by omega)];rfl
 | n+1,a,t,x,h=>by
  unfold o7;rw [dY,NH b n (Nat.succ a) _ x (by omega),Tr.lX _ _ _ _ (by omega)];by_cases h1:x=a
  . subst h1
    rw [if_neg (by omega),if_pos rfl,if_pos (by omega)]
  . rw [if_neg h1]
    by_cases h2:Nat.succ a<=x/\x<Nat.succ a+n
    . rw [if_pos h2,if_pos (by omega)]
    . rw [if_neg h2,if_neg (by omega)]
theorem nM.room{fs fs':Lit->Option Lit}{s:KS}(h:nM fs s){n:Nat}{sec:Bool}(hf:∀ a:Nat,fs' (.int .i64 a)=if s.used<=a/\a<s.used+n then some (.bool sec) else fs (.int .i64 a))(hu:s.used+n<=2048):nM fs' (s.room n sec):=by
 intro a ha;have ha:a<s.used+n:=ha;rw [hf a];unfold jK;show _=some (Lit.bool (match (o7 sec n s.used s.rs).get a with | some b=>b | none=>false));rw [NH _ _ _ _ _ (by omega)];by_cases h1:s.used<=a/\a<s.used+n
 . rw [if_pos h1,if_pos h1]
 . rw [if_neg h1,if_neg h1]
   exact h a (by omega)
theorem abL{w w1 w2:World}{b:Nat}{p:KP}(h:ah w w1 [b])(h2:ah w1 w2 ([p.pp]++p.rv.ownBlock.toList)):ah w w2 (p.foot b) :=
 (h.more fun k hk=>.inl (KP.bg (i:=0) hk)).trans h2 fun k hk=>by
   rcases List.mem_append.1 hk with hk | hk
   . exact .inl (KP.bg (i:=2) hk)
   . exact .inl (KP.bg (i:=9) hk)
theorem ams(f:Lit->Option Lit)(u k:Nat)(b:Bool)(g:Lit->Option Lit)(hg:∀ a:Nat,g (.int .i64 a)=if u<=a/\a<u+k then some (.bool b) else f (.int .i64 a))(a:Nat) :
 EL g (.int .i64 ((u:Int)+(k:Int))) (.bool b) (.int .i64 a)=if u<=a/\a<u+(k+1) then some (.bool b) else f (.int .i64 a):=by
 unfold EL;by_cases h:a=u+k
 . subst h
   rw [if_pos (by rw [Int.natCast_add]),if_pos (by omega)]
 . rw [if_neg (fun e=>h (by injection e with _ e; omega)),hg a]
   by_cases h1:u<=a/\a<u+k
   . rw [if_pos h1,if_pos (by omega)]
   . rw [if_neg h1,if_neg (by omega)]
theorem atI {w:World} {b:MP} {p:KP} {s:KS} (h:KB w b p s) (t:Tr Bool):KB w b p { s with rs:=t }:={ h with wf:=h.wf.rs t }
section
variable {w:World} {b:MP} {s:KS} {F:List Nat}
theorem oL(h:KR w b s F)(n:Nat)(sec:Bool)(h1:1<=n)(h2:s.used+n<=2048)(hn:s.names+1<=100000) :
 Calls Tryz.prog 82 #[.pointer (some ⟨b.a,0,none⟩),.int .i64 (n:Int),.bool sec] w (iW (.int .i64 (s.used:Int)) (s.room n sec) b F w):=by
 obtain⟨p,hp,hf,rfl⟩:=h;have fG:=hide (show Tryz.prog.follows .mixedOrders=true by kernel_rfl);have HB:=hide hp;have HF:=hide hf;have HN:=hide hn;have NI:=hide h1;have uy:=hide h2
 have hC1:=hide (show ∀ L w1,W2 5 8 (fun w'=>ah w w' []) (fun w'=>ah w w' [b.a]/\KB w' b p { s with names:=s.names+1 }) (fun w'=>ah w w' (p.foot b)/\∃ rv,KB w' b { p with rv:=rv } (NG s n sec)/\Sub (KP.foot b { p with rv:=rv }) (p.foot b) w) L w1->L 8=false->w1.cell? ⟨b.a,1,none⟩=some (.pointer (some ⟨p.pp,0,none⟩)) from by
  intro L w1 hW h8
  cases h5:L 5 with
  | false=>exact(hp.blk.aj (W2.a hW h5 h8) (by simp)).cell' (i:=1) rfl
  | true=>exact(W2.b hW h5 h8).2.blk.cell' (i:=1) rfl)
 clear hp hf hn h1 h2;go_enter Tryz.func82,Tryz.ntmps82
 go_upto_region 1 with(fail)
 refine iC fG.out _ _ (fun _=>Gn b.a p.pp s.names s.used n sec) (fun(_:Unit) L w'=>W2 5 8 (fun w'=>ah w w' []) (fun w'=>ah w w' [b.a]/\KB w' b p { s with names:=s.names+1 }) (fun w'=>ah w w' (p.foot b)/\∃ rv,KB w' b { p with rv:=rv } (NG s n sec)/\Sub (KP.foot b { p with rv:=rv }) (p.foot b) w) L w') () (by kernel_rfl) [] (by kernel_rfl) (fun p hp γ=>by simp at hp) (by kernel_rfl) ?step ?start ?fin ?ext
 case start=>exact(ah.refl w []).drew
 case ext=>exact fun γ L L' w' h hw=>hw.ext (h 5 (by decide)) (h 8 (by decide))
 case step =>
  intro i o ho L av w1 γ hdn ak hW hL hpre K Q hK
  match i,ho with
  | 0,ho =>
   injection ho with ho; subst ho;have b0:av.tmps.getD 0 undef=.pointer (some ⟨b.a,0,none⟩):=fM ak 0 (by kernel_rfl);clear ak;refine au ?_ (hK () w1 (fun _ _=>rfl) (W2.keep (by decide) (by decide) hW)); go_simp; rfl
  | 1,ho =>
   injection ho with ho; subst ho;have s0:=aJ ak 11 0 (by kernel_rfl) (hpre ⟨0,.data⟩ (by simp) rfl);simp only [Gn] at s0;clear ak;refine au ?_ (hK () w1 (fun _ _=>rfl) (W2.keep (by decide) (by decide) hW)); go_simp; rfl
  | 2,ho =>
   injection ho with ho; subst ho;have s1:=aJ ak 12 1 (by kernel_rfl) (hpre ⟨1,.data⟩ (by simp) rfl);simp only [Gn] at s1;clear ak;refine au ?_ (hK () w1 (fun _ _=>rfl) (W2.keep (by decide) (by decide) hW)); go_simp; rfl
  | 3,ho =>
   injection ho with ho; subst ho;have s2:=aJ ak 13 2 (by kernel_rfl) (hpre ⟨2,.data⟩ (by simp) rfl);simp only [Gn] at s2;clear ak
   have l8:L 8=false:=by
    cases h:L 8 with
    | false=>rfl
    | true =>
     have h3:L 3=true:=hdn 8 _ rfl h ⟨3,.data⟩ (by simp) rfl;rw [hL] at h3; cases h3
   have y:=hC1.out L w1 hW l8;refine au ?_ (hK () w1 (fun _ _=>rfl) (W2.keep (by decide) (by decide) hW)); go_simp; rfl
  | 4,ho =>
   injection ho with ho; subst ho;have b0:av.tmps.getD 0 undef=.pointer (some ⟨b.a,0,none⟩):=fM ak 0 (by kernel_rfl);clear ak;refine au ?_ (hK () w1 (fun _ _=>rfl) (W2.keep (by decide) (by decide) hW)); go_simp; rfl
  | 5,ho =>
   injection ho with ho; subst ho;have s4:=aJ ak 15 4 (by kernel_rfl) (hpre ⟨4,.data⟩ (by simp) rfl);simp only [Gn] at s4;clear ak
   have l8:L 8=false:=by
    cases h:L 8 with
    | false=>rfl
    | true =>
     have h3:L 5=true:=hdn 8 _ rfl h ⟨5,.data⟩ (by simp) rfl;rw [hL] at h3; cases h3
   have hA:=W2.a hW hL l8;refine gU (f:=141) (args:=#[.pointer (some ⟨b.a,0,none⟩),.string ⟨#[118]⟩]) ?_ (ND (HB.out.bJ hA) 118 HN.out) ?_
   . go_simp
   . rintro e w2 ⟨rfl,hc,hk⟩
     exact⟨_,rfl,hK () w2 (fun _ _=>rfl) (W2.ao1 (by decide) l8 ⟨(hA.more (by simp)).trans hc (fun k hk=>.inl hk),hk⟩)⟩
  | 6,ho =>
   injection ho with ho; subst ho;have b1:av.tmps.getD 1 undef=.int .i64 (n:Int):=fM ak 1 (by kernel_rfl);clear ak;refine au ?_ (hK () w1 (fun _ _=>rfl) (W2.keep (by decide) (by decide) hW)); go_simp; rfl
  | 7,ho =>
   injection ho with ho; subst ho;have b2:av.tmps.getD 2 undef=.bool sec:=fM ak 2 (by kernel_rfl);clear ak;refine au ?_ (hK () w1 (fun _ _=>rfl) (W2.keep (by decide) (by decide) hW)); go_simp; rfl
  | 8,ho =>
   injection ho with ho; subst ho;have s3:=aJ ak 14 3 (by kernel_rfl) (hpre ⟨3,.data⟩ (by simp) rfl);have l5:=hpre ⟨5,.data⟩ (by simp) rfl;have s5:=aJ ak 16 5 (by kernel_rfl) l5;have s6:=aJ ak 17 6 (by kernel_rfl) (hpre ⟨6,.data⟩ (by simp) rfl);have s7:=aJ ak 18 7 (by kernel_rfl) (hpre ⟨7,.data⟩ (by simp) rfl);simp only [Gn] at s3 s5 s6 s7;clear ak;have l5:=hpre ⟨5,.data⟩ (by simp) rfl;obtain⟨hcB,hkB⟩:=W2.b hW l5 hL;refine gU (f:=140) (args:=#[.pointer (some ⟨p.pp,0,none⟩),bH (iL (s.names+1)),.int .i64 (n:Int),.bool sec]) ?_ (YE hkB.plan (s.names+1) n sec (fun x hx e=>by have:=HB.out.wf.reg x hx; omega) (by have:=HB.out.wf.cap; have:=HB.out.wf.names; show s.rr.length<=_; omega) NI.out uy.out (by have:=HN.out; omega)) ?_
   . unfold bH iL; go_simp
   . rintro e w2 ⟨rfl,hc,rv,hs,hp⟩
     refine⟨_,rfl,hK () w2 (fun _ _=>rfl) (W2.ao2 ⟨abL hcB hc,rv,?_,?_⟩)⟩
     . exact hkB.atG hc hs hp (Nat.le_add_right _ _) (DT HB.out.wf HN.out NI.out uy.out)
     . intro k hk
       rcases KB.abD (b:=b) (p:=p) hs k hk with h | h
       . exact .inl h
       . exact .inr (Nat.le_trans hcB.size h)
  | 9,ho =>
   injection ho with ho; subst ho;have s8:=aJ ak 19 8 (by kernel_rfl) (hpre ⟨8,.data⟩ (by simp) rfl);simp only [Gn] at s8;clear ak;refine au ?_ (hK () w1 (fun _ _=>rfl) (W2.keep (by decide) (by decide) hW)); go_simp; rfl
  | 10,ho =>
   injection ho with ho; subst ho;have s9:=aJ ak 10 9 (by kernel_rfl) (hpre ⟨9,.data⟩ (by simp) rfl);simp only [Gn] at s9;clear ak;refine au ?_ (hK () w1 (fun _ _=>rfl) (W2.keep (by decide) (by decide) hW)); go_simp; rfl
  | 11,ho =>
   injection ho with ho; subst ho;have s9:=aJ ak 10 9 (by kernel_rfl) (hpre ⟨9,.data⟩ (by simp) rfl);simp only [Gn] at s9;clear ak;refine au ?_ (hK () w1 (fun _ _=>rfl) (W2.keep (by decide) (by decide) hW)); go_simp; rfl
  | 12,ho =>
   injection ho with ho; subst ho;have s10:=aJ ak 20 10 (by kernel_rfl) (hpre ⟨10,.data⟩ (by simp) rfl);simp only [Gn] at s10;clear ak;refine au ?_ (hK () w1 (fun _ _=>rfl) (W2.keep (by decide) (by decide) hW)); go_simp; rfl
  | 13,ho =>
   injection ho with ho; subst ho;have s11:=aJ ak 21 11 (by kernel_rfl) (hpre ⟨11,.data⟩ (by simp) rfl);simp only [Gn] at s11;clear ak;refine au ?_ (hK () w1 (fun _ _=>rfl) (W2.keep (by decide) (by decide) hW)); go_simp; rfl
  | _+14,ho=>cases ho
 case fin =>
 intro γ w1 hW;rw [jc,gy,iM];simp only [List.map_cons,List.map_nil];rw [ao3];simp only [Gn];have hW:ah w w1 (p.foot b)/\∃ rv,KB w1 b { p with rv:=rv } (NG s n sec)/\Sub (KP.foot b { p with rv:=rv }) (p.foot b) w:=hW;obtain⟨hc1,rv,hk1,hs1⟩:=hW;have J8:=hide hk1;have bZ:=hide hc1;have fJ:=hide hs1;clear hc1 hk1 hs1 hC1;go_wp2;go_loopw [9,23] (fun _ i wr=>∃(k m:Nat) (fs:Lit->Option Lit),k<=n/\i=.int .i64 k/\Hid (m=p.ns+k)/\Hid (ah w1 wr [p.ms])/\Hid (KB wr b { p with rv:=rv,ns:=m,fs:=fs } (NG s n sec))/\Hid (∀ a:Nat,fs (.int .i64 a)=if s.used<=a/\a<s.used+k then some (.bool sec) else p.fs (.int .i64 a))) (fun _ i _=>n - (intOf i).toNat)
 case atStart=>exact⟨0,p.ns,p.fs,Nat.zero_le _,rfl,hide rfl,hide (ah.refl _ _),J8,hide fun a=>by rw [if_neg (by omega)]⟩
 case round =>
  obtain⟨k,m,fs,hk,rfl,HM,HR,ZH,HFS⟩:=hrel;by_cases hlt:k<n
  . have c3:=ZH.out.blk.cell' (i:=3) rfl
    have hw1:wrap64 ((s.used:Int)+(k:Int))=(s.used:Int)+(k:Int):=by have:=uy.out; unfold wrap64; omega
    have hky:keyOf Tryz.prog 3 (.int .i64 (wrap64 ((s.used:Int)+(k:Int))))=some (.int .i64 ((s.used:Int)+(k:Int))):=by
     rw [hw1];exact wF (by omega) (by have:=uy.out; omega)
    have qM:=hide hlt;clear hlt;go_wp2_with (at_mapUpdate; refine qO rfl _ _ 157 3 4 kN p.ms m fs _ rfl Tryz.underlying157 rfl ZH.out.sec (by have q1:m<=s.used+n:=ZH.out.ns; have q2:=uy.out; unfold maxLen; omega) _ (.int .i64 ((s.used:Int)+(k:Int))) rfl hky trivial (.bool sec) (.bool sec) rfl (plainElem_bool Tryz.underlying4 sec) ?_);intro w5 hm5 hc5;have jD:=hide hc5;have HM5:=hide hm5;clear hm5 hc5 c3 hky hw1;have q1:=qM.out;have q2:n<=2048:=by have:=uy.out; omega
    go_wp2;go_roundw
    case rel =>
     refine⟨k+1,m+1,EL fs (.int .i64 ((s.used:Int)+(k:Int))) (.bool sec),by have:=qM.out; omega,by go_num,hide (by have:=HM.out; omega),hide (ah.trans (D:=[p.ms]) (D':=[p.ms]) HR.out jD.out (fun k hk=>.inl hk)),hide ?_,hide (ams p.fs s.used k sec fs HFS.out)⟩;exact(ZH.out.awT jD.out HM5.out (by have:=HB.out.ns; have:=HM.out; have:=qM.out; show m+1<=s.used+n; omega))
    case measure=>simp [intOf]; omega
  . have hk2:k=n:=by omega
    subst hk2;go_wp2;go_ret;exact⟨rfl,bZ.out.trans HR.out (fun k hk=>.inl (KP.bg (p:=p) (i:=4) hk)),_,fJ.out,{ p with rv:=rv,ns:=m,fs:=fs },atI ZH.out _,nM.room (fs':=fs) HF.out HFS.out uy.out,rfl⟩
end
end

section
open Go.RowKit Go.Deep Go.Maps Ab
attribute [local go_sem] Oper.semAt_some
theorem MkQ.lift {v:Value} {s s':KS} {b:MP} {p:KP} {w w':World} {e:Ending} (hf:nM p.fs s) (hs:∀ fs,nM fs s->nM fs s') (h:MkQ v s' b p w e w'):iW v s' b (p.foot b) w e w':=by
 obtain⟨he,hc,p',hk,hfs,hsub⟩:=h;exact⟨he,hc,p'.foot b,hsub,p',hk,hfs▸hs _ hf,rfl⟩
section
variable {w:World} {b:MP} {s:KS} {F:List Nat}
theorem KR.load (h:KR w b s F) (r a:Nat) (hr:r<=31) (ha:a<=2048) (hc:s.nc<=799999) :
 Calls Tryz.prog 103 #[.pointer (some ⟨b.a,0,none⟩),.int .i64 (r:Int),.int .i64 (a:Int)] w (iW (.tuple #[]) (s.load r a) b F w):=by
 obtain⟨p,hp,hf,rfl⟩:=h;exact(abG hp r a hr ha hc).mono fun e w' hq=>hq.lift hf fun fs h=>h
theorem KR.store (h:KR w b s F) (r a:Nat) (hr:r<=31) (ha:a<=2048) (hc:s.nc<=799999) :
 Calls Tryz.prog 104 #[.pointer (some ⟨b.a,0,none⟩),.int .i64 (r:Int),.int .i64 (a:Int)] w (iW (.tuple #[]) (s.store r a) b F w):=by
 obtain⟨p,hp,hf,rfl⟩:=h;exact(YB hp r a hr ha hc).mono fun e w' hq=>hq.lift hf fun fs h=>h
theorem lU{s:KS}{n:Nat}(h:s.can n=true):s.used+n<=2048/\s.names<=99990/\s.nc<=799980:=by
 unfold KS.can at h;simp only [Bool.and_eq_true] at h;exact⟨Nat.le_of_ble_eq_true h.1,Nat.le_of_ble_eq_true h.2.1,Nat.le_of_ble_eq_true h.2.2⟩
theorem zq(h:KR w b s F)(r:Nat)(sec:Bool)(hr:r<=31)(h2:s.used+1<=2048)(hn:s.names+1<=100000)(hc:s.nc<=799999) :
 Calls Tryz.prog 142 #[.pointer (some ⟨b.a,0,none⟩),.int .i64 (r:Int),.bool sec] w (iW (.int .i64 (s.used:Int)) (s.kept r sec) b F w):=by
 have hm:=oL h 1 sec (Nat.le_refl _) h2 hn;have HB:=hide h2;have HC:=hide hc;clear h h2 hn hc;go_enter Tryz.func142,Tryz.ntmps142
 go_wp2_with (go_at_call 82; refine hm.mono ?_);rintro e w1 ⟨rfl,hc1,F1,hs1,hk1⟩;have hst:=KR.store hk1 r s.used hr (by have:=HB.out; omega) HC.out;have bZ:=hide hc1;have fJ:=hide hs1;clear hc1 hs1 hk1 hm;go_wp2_with (go_at_call 104; refine hst.mono ?_);intro e w2 hq;obtain⟨rfl,hc2,F2,hs2,hk2⟩:=iW.trans bZ.out fJ.out hq;have HC2:=hide hc2;have HS2:=hide hs2;have jY:=hide hk2;clear hq hc2 hs2 hk2 hst;go_wp2;go_ret;exact⟨rfl,HC2.out,F2,HS2.out,jY.out⟩
theorem NJ(h:KR w b s F)(v:Nat)(hv:v<=2048)(hcan:s.can 1=true) :
 Calls Tryz.prog 85 #[.pointer (some ⟨b.a,0,none⟩),.int .i64 (v:Int)] w (iW (.int .i64 (s.used:Int)) (s.cell v) b F w):=by
 obtain⟨a1,a2,a3⟩:=lU hcan;have hm:=KR.load h 1 v (by decide) hv (by omega);have A1:=hide a1;have A2:=hide a2;have A3:=hide a3;clear h hcan a1 a2 a3;go_enter Tryz.func85,Tryz.ntmps85
 go_wp2_with (go_at_call 103; refine hm.mono ?_);rintro e w1 ⟨rfl,hc1,F1,hs1,hk1⟩;have hst:=zq hk1 1 true (by decide) (by have:=A1.out; exact this) (by have:=A2.out; show s.names+1<=_; omega) (by have:=A3.out; show s.nc+1<=_; omega);have bZ:=hide hc1;have fJ:=hide hs1;clear hc1 hs1 hk1 hm;go_wp2_with (go_at_call 142; refine hst.mono ?_);intro e w2 hq;obtain⟨rfl,hc2,F2,hs2,hk2⟩:=iW.trans bZ.out fJ.out hq;have HC2:=hide hc2;have HS2:=hide hs2;have jY:=hide hk2;clear hq hc2 hs2 hk2 hst;go_wp2;go_ret;exact⟨rfl,HC2.out,F2,HS2.out,jY.out⟩
theorem Rh(h:KR w b s F)(v:Nat)(hv:v<=2048)(hcan:s.can 1=true) :
 Calls Tryz.prog 53 #[.pointer (some ⟨b.a,0,none⟩),.int .i64 (v:Int)] w (iW (.int .i64 (s.used:Int)) (s.cell v) b F w):=by
 have hm:=NJ h v hv hcan;clear h hcan;go_enter Tryz.func53,Tryz.ntmps53
 go_wp2_with (go_at_call 85; refine hm.mono ?_);intro e w2 hq;obtain⟨rfl,hc2,F2,hs2,hk2⟩:=hq;have HC2:=hide hc2;have HS2:=hide hs2;have jY:=hide hk2;clear hc2 hs2 hk2 hm;go_wp2;go_ret;exact⟨rfl,HC2.out,F2,HS2.out,jY.out⟩
theorem ES (h:KR w b s F) (c v:Nat) (hc:c<=2048) (hv:v<=2048) (hn:s.nc<=799990) :
 Calls Tryz.prog 57 #[.pointer (some ⟨b.a,0,none⟩),.int .i64 (c:Int),.int .i64 (v:Int)] w (iW (.tuple #[]) (s.set c v) b F w):=by
 have hm:=KR.load h 1 v (by decide) hv (by omega);have A3:=hide hn;clear h hn;go_enter Tryz.func57,Tryz.ntmps57
 go_wp2_with (go_at_call 103; refine hm.mono ?_);rintro e w1 ⟨rfl,hc1,F1,hs1,hk1⟩;have hst:=KR.store hk1 1 c (by decide) hc (by have:=A3.out; show s.nc+1<=_; omega);have bZ:=hide hc1;have fJ:=hide hs1;clear hc1 hs1 hk1 hm;go_wp2_with (go_at_call 104; refine hst.mono ?_);intro e w2 hq;obtain⟨rfl,hc2,F2,hs2,hk2⟩:=iW.trans bZ.out fJ.out hq;have HC2:=hide hc2;have HS2:=hide hs2;have jY:=hide hk2;clear hq hc2 hs2 hk2 hst;go_wp2;refine bodyPost_end (results_none rfl _ _ _) rfl ?_;exact⟨rfl,HC2.out,F2,HS2.out,jY.out⟩
end
end

section
open Go.RowKit Go.Deep Go.Maps Ab
attribute [local go_sem] Oper.semAt_some
theorem Hu:Keyed Tryz.prog 21:=int_keyed Tryz.underlying21
theorem wf32{n:Int}(h:aB n):(Lit.int .i32 n).wf=true:=by
 unfold aB at h;simp [Lit.wf,IntKind.min,IntKind.max,IntKind.signed,IntKind.bits];omega
theorem amF{n:Int}(h:aB n):keyOf Tryz.prog 21 (.int .i32 n)=some (.int .i32 n):=keyOf_int_mk Tryz.underlying21 (wf32 h)
theorem EW(d:List (Nat×Int))(u:Nat)(x:Int):EL (uS d) (.int .i64 (u:Int)) (.int .i32 x)=uS ((u,x)::d):=by
 funext k;unfold EL;split
 . rename_i h
   subst h;simp [uS,findD]
 . rename_i h
   unfold uS;split
   . rename_i a
     rw [show findD ((u,x)::d) a=if(u:Int)=a then some x else findD d a from rfl,if_neg (fun e=>h (by rw [e]))]
   . rfl
theorem ab1(d:List (Int×Nat))(n:Int)(a:Nat):EL (oJ d) (.int .i32 n) (.int .i64 (a:Int))=oJ ((n,a)::d):=by
 funext k;unfold EL;split
 . rename_i h
   subst h;simp [oJ,zl]
 . rename_i h
   unfold oJ;split
   . rename_i m
     rw [show zl ((n,a)::d) m=if n=m then some a else zl d m from rfl,if_neg (fun e=>h (by rw [e]))]
   . rfl
theorem amG{s:KS}(h:s.WF){n:Int}(hu:s.used+1<=2048)(hn:s.names+1<=100000):({ (s.room 1 false) with data:=(s.used,n)::s.data,cons:=(n,s.used)::s.cons }:KS).WF :=
 { (show(s.room 1 false).WF from(DT (sec:=false) h hn (Nat.le_refl 1) hu).rs _) with data:=Nat.succ_le_succ h.data,cons:=Nat.succ_le_succ h.cons }
theorem aiq{s:KS}(h:s.WF){n:Int}(hu:s.used+1<=2048)(hn:s.names+1<=100000):({ (s.room 1 false) with data:=(s.used,n)::s.data }:KS).WF :=
 { (show(s.room 1 false).WF from(DT (sec:=false) h hn (Nat.le_refl 1) hu).rs _) with data:=Nat.succ_le_succ h.data }
section
variable {w:World} {b:MP} {s:KS} {F:List Nat}
theorem YM(h:KR w b s F)(n:Int)(hn:aB n)(hcan:s.can 1=true) :
 Calls Tryz.prog 383 #[.pointer (some ⟨b.a,0,none⟩),.int .i32 n] w (iW (.int .i64 ((s.const n).1:Int)) (s.const n).2 b F w):=by
 obtain⟨a1,a2,a3⟩:=lU hcan;have hm:=oL h 1 false (Nat.le_refl _) a1 (by omega);have A1:=hide a1;have A2:=hide a2;have HK:=hide h;obtain⟨p,hp,hf,hF⟩:=h;have HW:=hide hp.wf;have HC:=hide hp.cons;have c4:=hp.blk.cell' (i:=4) rfl;have hky:=amF hn;have HN:=hide hn
 cases hfc:zl s.cons n with
 | some a =>
  have e1:s.const n=(a,s):=by unfold KS.const; rw [hfc]
  have hv:oJ s.cons (.int .i32 n)=some (.int .i64 (a:Int)):=by simp [oJ,hfc]
  rw [e1];clear hm hp hf hF hfc e1 hcan a1 a2 a3;go_enter Tryz.func383,Tryz.ntmps383
  go_wp2_with (at_lookup; refine Gm rfl _ _ 158 21 3 .i64 Hu p.mc p.l7 (oJ s.cons) rfl Tryz.underlying158 Tryz.underlying3 rfl rfl HC.out _ (.int .i32 n) rfl hky trivial (a:Int) (by rw [hv]; rfl) ?_; rw [hv]);go_ret;exact⟨rfl,ah.refl _ _,F,Sub.refl _ _,HK.out⟩
 | none =>
  have e1:s.const n=(s.used,{ (s.room 1 false) with data:=(s.used,n)::s.data,cons:=(n,s.used)::s.cons }):=by unfold KS.const; rw [hfc]
  have hv:oJ s.cons (.int .i32 n)=none:=by simp [oJ,hfc]
  rw [e1];clear hp hf hF hfc e1 hcan a1 a2 a3;go_enter Tryz.func383,Tryz.ntmps383
  go_wp2_with (first | (at_lookup; refine Gm rfl _ _ 158 21 3 .i64 Hu p.mc p.l7 (oJ s.cons) rfl Tryz.underlying158 Tryz.underlying3 rfl rfl HC.out _ (.int .i32 n) rfl hky trivial 0 (by rw [hv]; rfl) ?_; rw [hv]) | (go_at_call 82; refine hm.mono ?_));rintro e w1 ⟨rfl,hc1,F1,hs1,p1,hp1,hf1,rfl⟩;have bZ:=hide hc1;have fJ:=hide hs1;have dL:=hide hp1;have jR:=hide hf1;have d2:=hp1.blk.cell' (i:=2) rfl;have d4:=hp1.blk.cell' (i:=4) rfl;have Ri:=wF (k:=(s.used:Int)) (by omega) (by have:=A1.out; omega);have hwx:=wf64 (k:=(s.used:Int)) (by omega) (by have:=A1.out; omega);clear hc1 hs1 hp1 hf1 hm c4;go_wp2_with (at_mapUpdate; refine qO rfl _ _ 156 3 21 kN p1.md p1.nd (uS s.data) _ rfl Tryz.underlying156 rfl dL.out.data (by have q1:=dL.out.nd; have q2:=dL.out.wf.data; have q3:=dL.out.wf.used; unfold maxLen; omega) _ (.int .i64 (s.used:Int)) rfl Ri trivial (.int .i32 n) (.int .i32 n) rfl (plainElem_int Tryz.underlying21 (wf32 HN.out)) ?_);intro w2 hm2 hc2;rw [EW] at hm2;have HP2:=hide (dL.out.abE hc2 hm2 (Nat.succ_le_succ dL.out.nd) (aiq HW.out A1.out (by have:=A2.out; omega)));have e4:=HP2.out.blk.cell' (i:=4) rfl;have HC2:=hide hc2;clear hm2 hc2 d2 d4;go_wp2_with (at_mapUpdate; refine qO rfl _ _ 158 21 3 Hu p1.mc p1.l7 (oJ s.cons) _ rfl Tryz.underlying158 rfl HP2.out.cons (by have q1:=dL.out.l7; have q2:=dL.out.wf.cons; have q3:=dL.out.wf.used; unfold maxLen; omega) _ (.int .i32 n) rfl hky trivial (.int .i64 (s.used:Int)) (.int .i64 (s.used:Int)) rfl (plainElem_int Tryz.underlying3 hwx) ?_);intro w3 hm3 hc3;rw [ab1] at hm3;have U7:=hide (HP2.out.atH hc3 hm3 (Nat.succ_le_succ HP2.out.l7) (amG HW.out A1.out (by have:=A2.out; omega)));have jC:=hide hc3;clear hm3 hc3 e4 hky Ri hwx;go_wp2;go_ret;have hA:ah w1 w2 (p1.foot b):=HC2.out.more (fun k hk=>.inl (KP.bg (i:=3) hk));have hB:ah w2 w3 (p1.foot b):=jC.out.more (fun k hk=>.inl (KP.bg (i:=5) hk));exact⟨rfl,bZ.out.trans (hA.trans hB (fun k hk=>.inl hk)) (fun k hk=>fJ.out k hk),_,fJ.out,_,U7.out,jR.out,rfl⟩
end
end

section
open Go.RowKit Go.Deep Go.Maps Ab
attribute [local go_sem] Oper.semAt_some
theorem amH{op:Int}(h1:1<=op)(h2:op<=23):chk op 3 1 2 0=0:=by
 rw [lS];rcases fU op with⟨h,e⟩ | ⟨h,e⟩ | ⟨h,e⟩ | ⟨h,e⟩ | ⟨h,e⟩ | ⟨h,e⟩ | ⟨h,e⟩ | ⟨h,e⟩ | ⟨h,e⟩ | ⟨h,e⟩<;>(unfold Fits jy; (try simp); omega)
theorem amI{op:Int}(h1:24<=op)(h2:op<=30):chk op 3 1 0 0=0:=by
 rw [lS];rcases fU op with⟨h,e⟩ | ⟨h,e⟩ | ⟨h,e⟩ | ⟨h,e⟩ | ⟨h,e⟩ | ⟨h,e⟩ | ⟨h,e⟩ | ⟨h,e⟩ | ⟨h,e⟩ | ⟨h,e⟩<;>(unfold Fits jy; (try simp); omega)
theorem jP{F F1:List Nat}{w:World}{k:Nat}(hs:Sub F1 F w)(hn:k∉F)(hk:k<w.heap.size):k∉F1:=fun hm=>by
 rcases hs k hm with h | h
 . exact hn h
 . omega
theorem apy{s:KS}{op a c:Nat}(h:op<=23):s.op op a c=(((s.load 1 a).load 2 c).ins ⟨op,3,1,2,0⟩).kept 3 (jK s a||jK s c):=by
 unfold KS.op;simp only [h,if_true]
theorem apz{s:KS}{op a c:Nat}(h:¬ op<=23):s.op op a c=((s.load 1 a).ins ⟨op,3,1,0,0⟩).kept 3 (jK s a||jK s c):=by
 unfold KS.op;simp only [h,if_false]
theorem ab2{P:Program}{ety:TypeId}(he:P.underlying ety=some .bool){u:Value}{v:Bool}{ps:List MemPlace}(hu:plainElem (H:=Unit) P ety u=some (.lit (.bool v),ps)):u=.bool v:=by
 unfold plainElem at hu;rw [he] at hu
 cases u<;>simp at hu
 rw [hu.1]
theorem EX{w:World}{m n:Nat}{f:Lit->Option Lit}(h:kY w 3 4 m n f)(c:Nat)(hc:c<=1000000)(v:Bool)(hv:f (.int .i64 (c:Int))=some (.bool v)) :
 (Instr.lookup 157 (.map (some m)) (.int .i64 (c:Int)) false).run Tryz.prog w=.ok (.bool v) w:=by
 obtain⟨D,hown,hT,hD,hf⟩:=h;obtain⟨u,ps,hrun,hu⟩:=hown.lookup kN Tryz.underlying157 (Tryz.zeroValue4 w) (plainElem_bool Tryz.underlying4 false) (wF (k:=(c:Int)) (by omega) (by omega));obtain⟨_,h2⟩:=hf (.int .i64 (c:Int)) trivial;rw [h2,hv] at hu;have hu:u=.bool v:=ab2 Tryz.underlying4 hu;rw [hrun,hu]
section
variable {w:World} {b:MP} {s:KS} {F:List Nat}
theorem ae_(h:KR w b s F)(op a c:Nat)(ho1:1<=op)(ho2:op<=23)(ha:a<s.used)(hcc:c<s.used)(hcan:s.can 1=true) :
 Calls Tryz.prog 384 #[.pointer (some ⟨b.a,0,none⟩),.int .i64 (op:Int),.int .i64 (a:Int),.int .i64 (c:Int)] w (iW (.int .i64 (s.used:Int)) (s.op op a c) b F w):=by
 obtain⟨a1,a2,a3⟩:=lU hcan;rw [apy (by omega)];have A1:=hide a1;have A2:=hide a2;have A3:=hide a3;have HA:=hide ha;have Rj:=hide hcc;have HO1:=hide ho1;have G_:=hide ho2;have hq0:=fun k hk=>h.lt k hk;have Vq:=hide hq0;have HG:=hide h.jF.size;have hm:=KR.load (h.bJ ((ah.refl w []).alloc (.cells #[.int .i64 (op:Int),.int .i64 3,.int .i64 1,.int .i64 0,.int .i64 0] 126))) 1 a (by decide) (by omega) (by omega);have hsh:=fun W:World=>qG (op:Int) W;have hs:jQ (op:Int)=[100,97,98,45]:=by rcases fU (op:Int) with h | h | h | h | h | h | h | h | h | h<;>first | exact h.2 | omega
 rw [hs] at hsh;clear hs h ha hcc a1 a2 a3 hcan ho1 ho2 hq0;go_enter Tryz.func384,Tryz.ntmps384
 go_wp2_with (go_at_call 103; refine hm.mono ?_);rintro e w1 ⟨rfl,hc1,F1,hs1,hk1⟩;have hw0:(w.alloc (.cells #[.int .i64 (op:Int),.int .i64 3,.int .i64 1,.int .i64 0,.int .i64 0] 126)).heap.size=w.heap.size+1:=size_alloc _ _;have hn0:w.heap.size∉F:=fun hmm=>by have:=Vq.out _ hmm; omega
 have hn1:w.heap.size∉F1:=jP hs1 hn0 (by rw [hw0]; omega);have hb1:=(aC.new w 126 [.int .i64 (op:Int),.int .i64 3,.int .i64 1,.int .i64 0,.int .i64 0]).aj hc1 hn0;have bZ:Hid (ah w w1 F):=hide (((ah.refl w F).alloc _).trans hc1 (fun k hk=>.inl hk))
 have fJ:Hid (Sub F1 F w):=hide fun k hk=>by
  rcases hs1 k hk with h | h
  . exact .inl h
  . exact .inr (by omega)
 have J8:=hide hk1;have HB1:=hide hb1;have NI:=hide hn1;have hm2:=KR.load hk1 2 c (by decide) (by have:=Rj.out; have:=A1.out; omega) (by have:=A3.out; show s.nc+1<=_; omega);clear hc1 hs1 hk1 hm hb1 hn1 hw0;go_wp2_with (first | (go_at_call 110; refine(hsh _).mono ?_; rintro e w2 ⟨rfl,rfl⟩) | (go_at_call 103; refine hm2.mono ?_));rintro e w2 ⟨rfl,hc2,F2,hs2,hk2⟩;have hn2:w.heap.size∉F2:=jP hs2 NI.out HB1.out.lt;have hb2:=HB1.out.aj hc2 NI.out;have y3:=hb2.cell' (i:=3) rfl;have f3:=hb2.frozen 3;have hlt2:=hb2.lt;have hx:ah w2 (w2.setCell ⟨w.heap.size,3,none⟩ (.int .i64 2)) [w.heap.size]:=(ah.refl w2 _).setCell _ _ (.inl (by simp));have hk3:=hk2.aj hx (fun k hk hm=>hn2 (by simp at hm; exact hm▸hk)) (fun k hk=>by simp at hk; have:=HG.out; omega);have hb3:=hb2.aK 3 (.int .i64 2);have HC2:Hid (ah w (w2.setCell ⟨w.heap.size,3,none⟩ (.int .i64 2)) F):=hide ((bZ.out.trans hc2 (fun k hk=>fJ.out k hk)).setCell _ _ (.inr (Nat.le_refl _)));have HS2:Hid (Sub F2 F w):=hide (Sub.trans fJ.out hs2 bZ.out.size);have HX:=hide (show ∀ W,W=w2.setCell ⟨w.heap.size,3,none⟩ (.int .i64 2)->KR W b ((s.load 1 a).load 2 c) F2/\aC W w.heap.size 126 [.int .i64 (op:Int),.int .i64 3,.int .i64 1,.int .i64 2,.int .i64 0]/\ah w W F from fun W e=>e▸⟨hk3,hb3,HC2.out⟩);clear hc2 hs2 hk2 hb2 hx hk3 hb3 hm2 hn2 HC2;go_wp2_with fail
 go_upto_region 6 with(fail)
 generalize hW:w2.setCell ⟨w.heap.size,3,none⟩ (.int .i64 2)=w3;obtain⟨⟨p,hp,hf,rfl⟩,hb3,hc3⟩:=HX.out w3 hW.symm;have c0:=hp.blk.cell' (i:=0) rfl;have x0:=hb3.cell' (i:=0) rfl;have x1:=hb3.cell' (i:=1) rfl;have x2:=hb3.cell' (i:=2) rfl;have x3:=hb3.cell' (i:=3) rfl;have x4:=hb3.cell' (i:=4) rfl;have hin:=KB.ins (hp.bJ ((ah.refl w3 []).drew)) ⟨op,3,1,2,0⟩ (by have q1:=HO1.out; have q2:=G_.out; exact amH (op:=(op:Int)) (by omega) (by omega)) (by have:=A3.out; show s.nc+2<=_; omega);unfold bD at hin;have jC:=hide hc3;have HF:=hide hf;have hsz:=hc3.size;clear hp hb3 hc3 hf;go_still_tail 5,(by kernel_rfl)
 change wpList _ _ _ _ _ w3.drew;go_wp2_with fail
 go_at_call 105;refine hin.mono ?_;rintro e w4 ⟨rfl,hc4,p4,jW,hf4,hs4⟩;have c3:=jW.blk.cell' (i:=3) rfl;have hva:p4.fs (.int .i64 (a:Int))=some (.bool (jK s a)):=by rw [hf4]; exact HF.out a HA.out
 have Gg:p4.fs (.int .i64 (c:Int))=some (.bool (jK s c)):=by rw [hf4]; exact HF.out c Rj.out
 have hla:=EX jW.sec a (by have:=HA.out; have:=A1.out; omega) _ hva;have hlc:=EX jW.sec c (by have:=Rj.out; have:=A1.out; omega) _ Gg;have NM:nM p4.fs (((s.load 1 a).load 2 c).ins ⟨op,3,1,2,0⟩):=by rw [hf4]; exact HF.out
 have hkp:=fun sec=>zq ⟨p4,jW,NM,rfl⟩ 3 sec (by decide) (by have:=A1.out; exact this) (by have:=A2.out; show s.names+1<=_; omega) (by have:=A3.out; show s.nc+3<=_; omega);have jB:Hid (ah w w4 F):=hide ((jC.out.drew).trans hc4 (fun k hk=>HS2.out k hk));have J9:Hid (Sub (p4.foot b) F w):=hide (Sub.trans HS2.out hs4 (by have:=jC.out.size; exact this));clear hva Gg hc4 jW hs4 hin hf4 NM c0 x0 x1 x2 x3 x4;generalize jK s a=sa at *;generalize jK s c=sc at *
 cases sa with
 | true =>
  go_wp2_with fail
  go_at_call 142;refine(hkp _).mono ?_;intro e w5 hq;obtain⟨rfl,hc5,F5,hs5,hk5⟩:=iW.trans jB.out J9.out hq;have jD:=hide hc5;have vM:=hide hs5;have AO:=hide hk5;clear hq hc5 hs5 hk5 hkp;go_wp2;go_ret;exact⟨rfl,jD.out,F5,vM.out,AO.out⟩
 | false =>
  go_wp2_with fail
  go_at_call 142;refine(hkp _).mono ?_;intro e w5 hq;obtain⟨rfl,hc5,F5,hs5,hk5⟩:=iW.trans jB.out J9.out hq;have jD:=hide hc5;have vM:=hide hs5;have AO:=hide hk5;clear hq hc5 hs5 hk5 hkp;go_wp2;go_ret;exact⟨rfl,jD.out,F5,vM.out,AO.out⟩
theorem afa(h:KR w b s F)(op a c:Nat)(ho1:24<=op)(ho2:op<=30)(ha:a<s.used)(hcc:c<s.used)(hcan:s.can 1=true) :
 Calls Tryz.prog 384 #[.pointer (some ⟨b.a,0,none⟩),.int .i64 (op:Int),.int .i64 (a:Int),.int .i64 (c:Int)] w (iW (.int .i64 (s.used:Int)) (s.op op a c) b F w):=by
 obtain⟨a1,a2,a3⟩:=lU hcan;rw [apz (by omega)];have A1:=hide a1;have A2:=hide a2;have A3:=hide a3;have HA:=hide ha;have Rj:=hide hcc;have HO1:=hide ho1;have G_:=hide ho2;have hq0:=fun k hk=>h.lt k hk;have Vq:=hide hq0;have HG:=hide h.jF.size;have hm:=KR.load (h.bJ ((ah.refl w []).alloc (.cells #[.int .i64 (op:Int),.int .i64 3,.int .i64 1,.int .i64 0,.int .i64 0] 126))) 1 a (by decide) (by omega) (by omega);have hsh:=fun W:World=>qG (op:Int) W;have hs:jQ (op:Int)=[100,97,45,45]:=by rcases fU (op:Int) with h | h | h | h | h | h | h | h | h | h<;>first | exact h.2 | omega
 rw [hs] at hsh;clear hs h ha hcc a1 a2 a3 hcan ho1 ho2 hq0;go_enter Tryz.func384,Tryz.ntmps384
 go_wp2_with (go_at_call 103; refine hm.mono ?_);rintro e w1 ⟨rfl,hc1,F1,hs1,hk1⟩;have hw0:(w.alloc (.cells #[.int .i64 (op:Int),.int .i64 3,.int .i64 1,.int .i64 0,.int .i64 0] 126)).heap.size=w.heap.size+1:=size_alloc _ _;have hn0:w.heap.size∉F:=fun hmm=>by have:=Vq.out _ hmm; omega
 have hn1:w.heap.size∉F1:=jP hs1 hn0 (by rw [hw0]; omega);have hb1:=(aC.new w 126 [.int .i64 (op:Int),.int .i64 3,.int .i64 1,.int .i64 0,.int .i64 0]).aj hc1 hn0;have bZ:Hid (ah w w1 F):=hide (((ah.refl w F).alloc _).trans hc1 (fun k hk=>.inl hk))
 have fJ:Hid (Sub F1 F w):=hide fun k hk=>by
  rcases hs1 k hk with h | h
  . exact .inl h
  . exact .inr (by omega)
 have J8:=hide hk1;have HB1:=hide hb1;have NI:=hide hn1;clear hc1 hs1 hk1 hm hb1 hn1 hw0;go_wp2_with (first | (go_at_call 110; refine(hsh _).mono ?_; rintro e w2 ⟨rfl,rfl⟩));go_upto_region 6 with(fail)
 have HS2:=fJ;obtain⟨⟨p,hp,hf,rfl⟩,hb3,hc3⟩:=(⟨J8.out,HB1.out,bZ.out⟩:KR w1 b (s.load 1 a) F1/\aC w1 w.heap.size 126 [.int .i64 (op:Int),.int .i64 3,.int .i64 1,.int .i64 0,.int .i64 0]/\ah w w1 F)
 have c0:=hp.blk.cell' (i:=0) rfl;have x0:=hb3.cell' (i:=0) rfl;have x1:=hb3.cell' (i:=1) rfl;have x2:=hb3.cell' (i:=2) rfl;have x3:=hb3.cell' (i:=3) rfl;have x4:=hb3.cell' (i:=4) rfl;have hin:=KB.ins (hp.bJ ((ah.refl w1 []).drew)) ⟨op,3,1,0,0⟩ (by have q1:=HO1.out; have q2:=G_.out; exact amI (op:=(op:Int)) (by omega) (by omega)) (by have:=A3.out; show s.nc+1<=_; omega);unfold bD at hin;have jC:=hide hc3;have HF:=hide hf;have hsz:=hc3.size;clear hp hb3 hc3 hf;go_still_tail 5,(by kernel_rfl)
 change wpList _ _ _ _ _ w1.drew;go_wp2_with fail
 go_at_call 105;refine hin.mono ?_;rintro e w4 ⟨rfl,hc4,p4,jW,hf4,hs4⟩;have c3:=jW.blk.cell' (i:=3) rfl;have hva:p4.fs (.int .i64 (a:Int))=some (.bool (jK s a)):=by rw [hf4]; exact HF.out a HA.out
 have Gg:p4.fs (.int .i64 (c:Int))=some (.bool (jK s c)):=by rw [hf4]; exact HF.out c Rj.out
 have hla:=EX jW.sec a (by have:=HA.out; have:=A1.out; omega) _ hva;have hlc:=EX jW.sec c (by have:=Rj.out; have:=A1.out; omega) _ Gg;have NM:nM p4.fs ((s.load 1 a).ins ⟨op,3,1,0,0⟩):=by rw [hf4]; exact HF.out
 have hkp:=fun sec=>zq ⟨p4,jW,NM,rfl⟩ 3 sec (by decide) (by have:=A1.out; exact this) (by have:=A2.out; show s.names+1<=_; omega) (by have:=A3.out; show s.nc+2<=_; omega);have jB:Hid (ah w w4 F):=hide ((jC.out.drew).trans hc4 (fun k hk=>HS2.out k hk));have J9:Hid (Sub (p4.foot b) F w):=hide (Sub.trans HS2.out hs4 (by have:=jC.out.size; exact this));clear hva Gg hc4 jW hs4 hin hf4 NM c0 x0 x1 x2 x3 x4;generalize jK s a=sa at *;generalize jK s c=sc at *
 cases sa with
 | true =>
  go_wp2_with fail
  go_at_call 142;refine(hkp _).mono ?_;intro e w5 hq;obtain⟨rfl,hc5,F5,hs5,hk5⟩:=iW.trans jB.out J9.out hq;have jD:=hide hc5;have vM:=hide hs5;have AO:=hide hk5;clear hq hc5 hs5 hk5 hkp;go_wp2;go_ret;exact⟨rfl,jD.out,F5,vM.out,AO.out⟩
 | false =>
  go_wp2_with fail
  go_at_call 142;refine(hkp _).mono ?_;intro e w5 hq;obtain⟨rfl,hc5,F5,hs5,hk5⟩:=iW.trans jB.out J9.out hq;have jD:=hide hc5;have vM:=hide hs5;have AO:=hide hk5;clear hq hc5 hs5 hk5 hkp;go_wp2;go_ret;exact⟨rfl,jD.out,F5,vM.out,AO.out⟩
theorem air(h:KR w b s F)(op a c:Nat)(ho1:1<=op)(ho2:op<=30)(ha:a<s.used)(hcc:c<s.used)(hcan:s.can 1=true) :
 Calls Tryz.prog 384 #[.pointer (some ⟨b.a,0,none⟩),.int .i64 (op:Int),.int .i64 (a:Int),.int .i64 (c:Int)] w (iW (.int .i64 (s.used:Int)) (s.op op a c) b F w):=by
 by_cases h23:op<=23
 . exact ae_ h op a c ho1 h23 ha hcc hcan
 . exact afa h op a c (by omega) ho2 ha hcc hcan
end
end

section
open Go.RowKit Go.Deep Go.Maps Ab
attribute [local go_sem] Oper.semAt_some
def yL(s:KS)(d n:Nat):KS:={ s with rc:=⟨31,(9+2*d:Nat),0,0,n⟩::⟨31,(8+2*d:Nat),0,0,0⟩::s.rc,nc:=s.nc+2,rd:=(s.names+1,s.nc+2)::s.rd,names:=s.names+1 }
theorem apB(s:KS)(n:Nat):s.GN n=(yL { (s.room 1 false) with depth:=s.depth+1 } s.depth n).store (8+2*s.depth) s.used:=rfl
theorem apC{s:KS}{d:Nat}(h:s.depth=d+1)(k:Nat):s.fin k={ s with rc:=⟨38,(8+2*d:Nat),(9+2*d:Nat),0,0⟩::⟨31,(8+2*d:Nat),(8+2*d:Nat),0,1⟩::s.rc,nc:=s.nc+2,ru:=(k,s.nc+1)::s.ru,depth:=d }:=by
 unfold KS.fin;rw [h,show 6+2*(d+1)=8+2*d by omega,show 7+2*(d+1)=9+2*d by omega,Nat.add_sub_cancel]
theorem NP{j:Nat}:∀ {l:List (Nat×Nat)},(∀ p∈l,p.1≠j)->EO l j=none
 | [],_=>rfl
 | (i,a)::l,h=>by
  unfold EO
  have h1:Nat.beq i j=false:=by
   cases hb:Nat.beq i j with
   | false=>rfl
   | true=>exact absurd (Nat.eq_of_beq_eq_true hb) (h (i,a) List.mem_cons_self)
  rw [h1];exact NP fun p hp=>h p (List.mem_cons_of_mem _ hp)
theorem amJ{d n:Nat}(hd:d<=10)(h1:1<=n)(h2:n<=32767):yZ ((8+2*d:Nat):Int) ((9+2*d:Nat):Int) (n:Int)=true:=by
 rw [He,wC,wC];omega
theorem amK{s:KS}(h:s.WF){d n:Nat}(hd:d<=10)(h1:1<=n)(h2:n<=32767)(hn:s.names+1<=100000) :
 rH ({ s with names:=s.names+1 }:KS).bm ((8+2*d:Nat):Int) ((9+2*d:Nat):Int) (n:Int) (jg (s.names+1))=(0,(yL s d n).bm):=by
 have hf:gJ ({ s with names:=s.names+1 }:KS).bm.defs (jg (s.names+1))=none:=by
  have:=PO (s.names+1) s.rd.reverse;show gJ (s.rd.reverse.map xM) _=none;rw [this,NP fun p hp=>?_]
  . rfl
  . have:=h.lab p (List.mem_reverse.1 hp)
    omega
 unfold rH;rw [if_neg (by rw [amJ hd h1 h2]; decide),if_neg (by rw [atE (by omega)]; decide),hf,if_neg (by decide)]
 have hl:(({ s with names:=s.names+1 }:KS).bm.code.length:Int)=(s.nc:Int):=by
  show((s.rc.reverse.length:Nat):Int)=_;rw [List.length_reverse,<- h.nc]
 rw [hl];unfold KS.bm yL;simp
theorem ais{s:KS}(h:s.WF)(d k:Nat):Nr s.bm ((8+2*d:Nat):Int) ((9+2*d:Nat):Int) (jg k)=({ s with rc:=⟨38,(8+2*d:Nat),(9+2*d:Nat),0,0⟩::⟨31,(8+2*d:Nat),(8+2*d:Nat),0,1⟩::s.rc,nc:=s.nc+2,ru:=(k,s.nc+1)::s.ru }:KS).bm:=by
 unfold Nr
 have hl:(s.bm.code.length:Int)=(s.nc:Int):=by
  show((s.rc.reverse.length:Nat):Int)=_;rw [List.length_reverse,<- h.nc]
 rw [hl];unfold KS.bm;simp
theorem apD{s:KS}(h:s.WF){d n:Nat}(hn:s.names+1<=100000)(hc:s.nc<=799990):(yL s d n).WF :=
 { h with
   nc:=by show s.nc+2=s.rc.length+2; rw [h.nc]
   names:=hn
   cap:=Nat.le_succ_of_le h.cap
   reg:=fun p hp=>Nat.le_succ_of_le (h.reg p hp)
   code:=by show s.nc+2<=_; omega
   defs:=Nat.succ_le_succ h.defs
   lab:=fun p hp=>by
    rcases List.mem_cons.1 hp with rfl | hp
    . exact Nat.le_refl _
    . exact Nat.le_succ_of_le (h.lab p hp)
   uses:=Nat.le_trans h.uses (Nat.le_add_right _ _) }
theorem atM{s:KS}(h:s.WF){d k:Nat}(hd:d<=11)(hc:s.nc<=799990):({ s with rc:=⟨38,(8+2*d:Nat),(9+2*d:Nat),0,0⟩::⟨31,(8+2*d:Nat),(8+2*d:Nat),0,1⟩::s.rc,nc:=s.nc+2,ru:=(k,s.nc+1)::s.ru,depth:=d }:KS).WF :=
 { h with
   nc:=by show s.nc+2=s.rc.length+2; rw [h.nc]
   code:=by show s.nc+2<=_; omega
   uses:=by show s.ru.length+1<=s.nc+2; have:=h.uses; omega
   dep:=hd }
theorem YN {w:World} {b:MP} {s:KS} {F:List Nat} (h:KR w b s F) (k3 k6 k7 k5 c i:Nat) (bf:FuncId) (f:Array Value) (cap:Array Value) (s2:KS)
 (b3:aC w k3 96 [.pointer (some ⟨b.a,0,none⟩)]) (b6:aC w k6 3 [.int .i64 (c:Int)]) (b7:aC w k7 3 [.int .i64 (i:Int)]) (b5:aC w k5 229 [.func (.func bf) f cap])
 (n5:k5∉F) (n7:k7∉F) (hc:c<=31) (hi:i<=2048) (hn:s.nc<=799990) (hcl:∀(args:Array Value) (W:World),(callFunc bf args).run Tryz.prog W=.ok (.enter bf args) W)
 (hdo:∀ w1 F1,KR w1 b (s.store c i) F1->ah w w1 F->Sub F1 F w->Calls Tryz.prog bf (f++#[.int .i64 (i:Int)]++cap) w1 (iW (.tuple #[]) s2 b F1 w1)) :
 Calls Tryz.prog 389 #[.pointer (some ⟨k3,0,none⟩),.pointer (some ⟨k6,0,none⟩),.pointer (some ⟨k7,0,none⟩),.pointer (some ⟨k5,0,none⟩)] w (iW (.tuple #[]) s2 b F w):=by
 have hst:=KR.store h c i hc hi (by omega);have x3:=b3.cell' (i:=0) rfl;have x6:=b6.cell' (i:=0) rfl;have x7:=b7.cell' (i:=0) rfl;have B5:=hide b5;have B7:=hide b7;have N5:=hide n5;have N7:=hide n7;have kM:=hide hdo;clear h b3 b6 b7 b5 n5 n7 hdo;go_enter Tryz.func389,Tryz.ntmps389
 go_wp2_with (go_at_call 104; refine hst.mono ?_);rintro e w1 ⟨rfl,hc1,F1,hs1,hk1⟩;have y5:=(B5.out.aj hc1 N5.out).cell' (i:=0) rfl;have y7:=(B7.out.aj hc1 N7.out).cell' (i:=0) rfl;have HQ:=hide (kM.out w1 F1 hk1 hc1 hs1);have bZ:=hide hc1;have fJ:=hide hs1;clear hc1 hs1 hk1 hst;go_wp2_with fail
 first | refine HQ.out.mono ?_ | (have hq:=HQ.out; simp only [Array.append_assoc] at hq ⊢; refine hq.mono ?_) | fail
 intro e w2 hq;obtain⟨rfl,hc2,F2,hs2,hk2⟩:=iW.trans bZ.out fJ.out hq;have HC2:=hide hc2;have HS2:=hide hs2;have jY:=hide hk2;clear hq hc2 hs2 hk2;go_wp2;refine bodyPost_end (results_none rfl _ _ _) rfl ?_;exact⟨rfl,HC2.out,F2,HS2.out,jY.out⟩
end

section
open Go Go.RowKit Go.Deep Go.Maps Ab Xi
attribute [local go_sem] Oper.semAt_some
def Rk (b bb k3 k6 k7 k5 c n names:Nat):Nat->Value
 | 0=>.pointer (some ⟨b,0,none⟩)
 | 1=>.pointer (some ⟨b,0,none⟩)
 | 2=>.pointer (some ⟨b,0,none⟩)
 | 3=>.pointer (some ⟨bb,0,none⟩)
 | 4=>.int .i64 (c:Int)
 | 5=>.int .i64 (c:Int)
 | 6=>.int .i64 ((c+1:Nat):Int)
 | 7=>.int .i64 (n:Int)
 | 8=>.pointer (some ⟨b,0,none⟩)
 | 9=>.string ⟨(108::oI (names+1)).toArray⟩
 | 10=>.func (.func 389) #[] #[.pointer (some ⟨k3,0,none⟩),.pointer (some ⟨k6,0,none⟩),.pointer (some ⟨k7,0,none⟩),.pointer (some ⟨k5,0,none⟩)]
 | 11=>.int .i64 0
 | _=>undef
theorem apE(v:Nat->Value)(t0 t1 t2 t3 t4 t5 t6 t7 t8 t9 t10 t11 t12 t13 t14 t15 t16 t17 t18 t19 t20 t21 t22 t23 t24 t25 t26 t27 t28 t29 t30 t31 t32 t33 t34 t35 t36 t37 t38 t39 t40 t41:Value):oK v (some 23::some 24::some 25::some 26::some 27::some 28::some 29::some 30::some 31::some 32::some 33::some 34::[]) 0 (t0::t1::t2::t3::t4::t5::t6::t7::t8::t9::t10::t11::t12::t13::t14::t15::t16::t17::t18::t19::t20::t21::t22::t23::t24::t25::t26::t27::t28::t29::t30::t31::t32::t33::t34::t35::t36::t37::t38::t39::t40::t41::[])=(t0::t1::t2::t3::t4::t5::t6::t7::t8::t9::t10::t11::t12::t13::t14::t15::t16::t17::t18::t19::t20::t21::t22::v 0::v 1::v 2::v 3::v 4::v 5::v 6::v 7::v 8::v 9::v 10::v 11::t35::t36::t37::t38::t39::t40::t41::[]):=by kernel_rfl
theorem afb(caps:Array Value)(W:World):(callFunc 389 caps).run Tryz.prog W=.ok (.enter 389 caps) W:=by kernel_rfl
def atN (b:MP) (s2:KS) (p:KP) (w0:World) (w2:World) (bm2:BM) (F2:List Nat):Prop :=
 ∃ p2,KB w2 b p2 s2/\nM p2.fs s2/\bm2=s2.bm/\F2=p2.FB/\ah w0 w2 (p.foot b.a)/\Sub (p2.foot b.a) (p.foot b.a) w0
section
variable {w:World} {b:MP} {s:KS} {p:KP}
theorem YO (h:KB w b p s) (hf:nM p.fs s) (hnm:1<=s.names) {d n:Nat} (hd:d<=10) (h1:1<=n) (h2:n<=32767) (hc:s.nc<=799980) (k3 k6 k7 k5 i:Nat) (bf:FuncId) (f cap:Array Value) (s2:KS)
 (hop:rH s.bm ((8+2*d:Nat):Int) ((9+2*d:Nat):Int) (n:Int) (jg s.names)=(0,(yL { s with names:=s.names - 1 } d n).bm)) (hwf:(yL { s with names:=s.names - 1 } d n).WF)
 (b3:aC w k3 96 [.pointer (some ⟨b.a,0,none⟩)]) (b6:aC w k6 3 [.int .i64 ((8+2*d:Nat):Int)]) (b7:aC w k7 3 [.int .i64 (i:Int)]) (b5:aC w k5 229 [.func (.func bf) f cap])
 (hk:∀ k∈[k3,k6,k7,k5],k∉p.foot b.a) (hi:i<=2048) (hcl:∀(args:Array Value) (W:World),(callFunc bf args).run Tryz.prog W=.ok (.enter bf args) W) (hc2:s2.nc<=799990)
 (hdo:∀ w1 F1,KR w1 b ((yL { s with names:=s.names - 1 } d n).store (8+2*d) i) F1->ah w w1 (p.foot b.a)->Sub F1 (p.foot b.a) w->Calls Tryz.prog bf (f++#[.int .i64 (i:Int)]++cap) w1 (iW (.tuple #[]) s2 b F1 w1)) :
 Calls Tryz.prog 388 #[.pointer (some ⟨p.bb,0,none⟩),.int .i64 ((8+2*d:Nat):Int),.int .i64 ((9+2*d:Nat):Int),.int .i64 (n:Int),bH (jg s.names),.func (.func 389) #[] #[.pointer (some ⟨k3,0,none⟩),.pointer (some ⟨k6,0,none⟩),.pointer (some ⟨k7,0,none⟩),.pointer (some ⟨k5,0,none⟩)]] w
  fun e w'=>e=.returned (.int .i64 0)/\ah w w' (p.foot b.a)/\∃ p3,KB w' b p3 { s2 with rc:=⟨38,(8+2*d:Nat),(9+2*d:Nat),0,0⟩::⟨31,(8+2*d:Nat),(8+2*d:Nat),0,1⟩::s2.rc,nc:=s2.nc+2,ru:=(s.names,s2.nc+1)::s2.ru }/\nM p3.fs s2/\Sub (p3.foot b.a) (p.foot b.a) w:=by
 have hlen:(jg s.names).length<=1000000:=by
  have:=DR (u:=s.names) (by have:=h.wf.names; omega);unfold jg oI;rw [Lib.itoa_nonneg];simp only [List.length_cons];omega
 have hcode:s.bm.code.length<=800000:=by
  show s.rc.reverse.length<=_;rw [List.length_reverse,<- h.wf.nc]; omega
 have atO:s.bm.defs.length<=1000000:=by
  show(s.rd.reverse.map _).length<=_;rw [List.length_map,List.length_reverse];have:=h.wf.defs; have:=h.wf.names; omega
 have awV:DoP 389 #[.pointer (some ⟨k3,0,none⟩),.pointer (some ⟨k6,0,none⟩),.pointer (some ⟨k7,0,none⟩),.pointer (some ⟨k5,0,none⟩)] (atN b s2 p w) (rH s.bm ((8+2*d:Nat):Int) ((9+2*d:Nat):Int) (n:Int) (jg s.names)) p.bb p.FB w:=by
  intro _ w1 F1 hc1 hs1 hp1;rw [hop] at hp1
  have hs:({ s with rc:=(yL { s with names:=s.names - 1 } d n).rc,nc:=(yL { s with names:=s.names - 1 } d n).nc,rd:=(yL { s with names:=s.names - 1 } d n).rd,ru:=s.ru }:KS)=yL { s with names:=s.names - 1 } d n:=by
   unfold yL;simp only [Nat.sub_add_cancel hnm]
  have hkb:=h.aik hc1 hs1 hp1 (yL { s with names:=s.names - 1 } d n).rc (yL { s with names:=s.names - 1 } d n).nc (yL { s with names:=s.names - 1 } d n).rd s.ru (by rw [hs]) (by rw [hs]; exact hwf);rw [hs] at hkb;have hcf:ah w w1 (p.foot b.a):=hc1.more fun k hk=>.inl (KP.bg (i:=1) hk);have hsf:Sub (KP.foot b.a { p with FB:=F1 }) (p.foot b.a) w:=KB.Hq hs1;have hkr:KR w1 b (yL { s with names:=s.names - 1 } d n) (KP.foot b.a { p with FB:=F1 }):=⟨_,hkb,hf,rfl⟩
  have nk:∀ k∈[k3,k6,k7,k5],k<w.heap.size->k∉KP.foot b.a { p with FB:=F1 }:=fun k hkm hlt=>jP hsf (hk k hkm) hlt;have nb:∀ k∈[k3,k6,k7,k5],k∉p.FB:=fun k hkm hm=>hk k hkm (KP.bg (i:=1) hm);refine(YN hkr k3 k6 k7 k5 (8+2*d) i bf f cap s2 (b3.aj hc1 (nb _ (by simp))) (b6.aj hc1 (nb _ (by simp))) (b7.aj hc1 (nb _ (by simp))) (b5.aj hc1 (nb _ (by simp))) (nk _ (by simp) b5.lt) (nk _ (by simp) b7.lt) (by omega) hi (by show s.nc+2<=_; omega) hcl fun w2 F2 hk2 hc2 hs2=>?_).mono ?_
  . exact hdo w2 F2 hk2 (hcf.trans hc2 (fun k hk=>hsf k hk)) (Sub.trans hsf hs2 hcf.size)
  . intro e w2 hq
    obtain⟨rfl,hcq,F2,hsq,p2,hk2,hf2,rfl⟩:=iW.trans hcf hsf hq;refine⟨⟨_,rfl⟩,s2.bm,p2.FB,?_,?_,?_,p2,hk2,hf2,rfl,rfl,hcq,hsq⟩
    . have:=hk2.nK
      rw [hk2.o8,<- h.o8] at this;exact this
    . show s2.rc.reverse.length<=_
      rw [List.length_reverse,<- hk2.wf.nc]; omega
    . show(s2.ru.reverse.map _).length<=_
      rw [List.length_map,List.length_reverse];have:=hk2.wf.uses; have:=hk2.wf.code; omega
 refine(abr h.nK _ _ _ (jg s.names) 389 _ _ hlen hcode atO (afb _) awV).mono ?_;intro e w' hq;obtain⟨w2,bm2,F2,⟨p2,hk2,hf2,rfl,rfl,hcq,hsq⟩,rfl,hcg,F3,hs3,hp3⟩:=hq.1 (by rw [hop]);rw [ais hk2.wf,h.o8,<- hk2.o8] at hp3;have hW:=atM (k:=s.names) hk2.wf (d:=d) (by omega) hc2;have hW2:({ s2 with rc:=⟨38,(8+2*d:Nat),(9+2*d:Nat),0,0⟩::⟨31,(8+2*d:Nat),(8+2*d:Nat),0,1⟩::s2.rc,nc:=s2.nc+2,ru:=(s.names,s2.nc+1)::s2.ru }:KS).WF:={ hW with dep:=hk2.wf.dep }
 have hk3:=hk2.aik hcg hs3 hp3 _ _ s2.rd _ rfl hW2;have awW:ah w2 w' (p2.foot b.a):=hcg.more fun k hk=>.inl (KP.bg (i:=1) hk);exact⟨rfl,hcq.trans awW (fun k hk=>hsq k hk),_,hk3,hf2,Sub.trans hsq (KB.Hq hs3) hcq.size⟩
end
end

section
open Go Go.RowKit Go.Deep Go.Maps Ab Xi
attribute [local go_sem] Oper.semAt_some
section
variable {w:World} {b:MP} {s:KS} {F:List Nat}
theorem YP(h:KR w b s F)(n:Nat)(bf:FuncId)(f cap:Array Value)(s2:KS)(hd:s.depth<=10)(h1:1<=n)(h2:n<=32767)(hcan:s.can 1=true)(hnc:s.nc<=799980)(hs2:s2.depth=s.depth+1)(hc2:s2.nc<=799990)
 (hcl:∀(args:Array Value) (W:World),(callFunc bf args).run Tryz.prog W=.ok (.enter bf args) W)
 (hdo:∀ w1 F1,KR w1 b (s.GN n) F1->ah w w1 F->Sub F1 F w->Calls Tryz.prog bf (f++#[.int .i64 (s.used:Int)]++cap) w1 (iW (.tuple #[]) s2 b F1 w1)) :
 Calls Tryz.prog 386 #[.pointer (some ⟨b.a,0,none⟩),.int .i64 (n:Int),.func (.func bf) f cap] w (iW (.tuple #[]) (s2.fin (s.names+2)) b F w):=by
 obtain⟨a1,a2,a3⟩:=lU hcan;have fG:=hide (show Tryz.prog.follows .mixedOrders=true by kernel_rfl);have kM:=hide hdo;have HK:=hide h;obtain⟨p0,hp0,hf0,hF0⟩:=h;have c6:=hp0.blk.cell' (i:=6) rfl;have f6:=hp0.blk.frozen 6;have hlt:=hp0.blk.lt;have hwa:wrap64 (2*(s.depth:Int))=2*(s.depth:Int):=by unfold wrap64; omega
 have hwb:wrap64 (8+2*(s.depth:Int))=((8+2*s.depth:Nat):Int):=by unfold wrap64; omega
 have hwc:wrap64 ((s.depth:Int)+1)=((s.depth+1:Nat):Int):=by unfold wrap64; omega
 have HP0:=hide hp0;have HF0:=hide hF0;have HFS:=hide hf0;have HA1:=hide a1;have HA2:=hide a2;have HD:=hide hd;have NI:=hide h1;have uy:=hide h2;have HNC:=hide hnc;have HS2:=hide hs2;have HC2:=hide hc2;clear hp0 hf0 hF0 a1 a2 a3 hcan hdo h1 h2 hnc hs2 hc2;go_enter Tryz.func386,Tryz.ntmps386
 go_upto_region 2 with(fail)
 change Code.wp _ _ _ _ (((w.alloc (.cells #[.pointer (some ⟨b.a,0,none⟩)] 96)).alloc (.cells #[.func (.func bf) f cap] 229)).alloc (.cells #[.int .i64 (8+2*(s.depth:Int))] 3));have hs1:(w.alloc (.cells #[.pointer (some ⟨b.a,0,none⟩)] 96)).heap.size=w.heap.size+1:=size_alloc _ _;have hs2:((w.alloc (.cells #[.pointer (some ⟨b.a,0,none⟩)] 96)).alloc (.cells #[.func (.func bf) f cap] 229)).heap.size=w.heap.size+1+1:=by rw [size_alloc,hs1]
 have b3:aC (((w.alloc (.cells #[.pointer (some ⟨b.a,0,none⟩)] 96)).alloc (.cells #[.func (.func bf) f cap] 229)).alloc (.cells #[.int .i64 (8+2*(s.depth:Int))] 3)) w.heap.size 96 [.pointer (some ⟨b.a,0,none⟩)]:=((aC.new w 96 [.pointer (some ⟨b.a,0,none⟩)]).alloc _).alloc _
 have b5:aC (((w.alloc (.cells #[.pointer (some ⟨b.a,0,none⟩)] 96)).alloc (.cells #[.func (.func bf) f cap] 229)).alloc (.cells #[.int .i64 (8+2*(s.depth:Int))] 3)) (w.heap.size+1) 229 [.func (.func bf) f cap]:=by
  have:=(aC.new (w.alloc (.cells #[.pointer (some ⟨b.a,0,none⟩)] 96)) 229 [.func (.func bf) f cap]).alloc (.cells #[.int .i64 (8+2*(s.depth:Int))] 3);rw [hs1] at this;exact this
 have b6:aC (((w.alloc (.cells #[.pointer (some ⟨b.a,0,none⟩)] 96)).alloc (.cells #[.func (.func bf) f cap] 229)).alloc (.cells #[.int .i64 (8+2*(s.depth:Int))] 3)) (w.heap.size+1+1) 3 [.int .i64 ((8+2*s.depth:Nat):Int)]:=by
  have:=aC.new ((w.alloc (.cells #[.pointer (some ⟨b.a,0,none⟩)] 96)).alloc (.cells #[.func (.func bf) f cap] 229)) 3 [.int .i64 (8+2*(s.depth:Int))];rw [hs2] at this;rw [show((8+2*s.depth:Nat):Int)=8+2*(s.depth:Int) by omega];exact this
 have hsz:(((w.alloc (.cells #[.pointer (some ⟨b.a,0,none⟩)] 96)).alloc (.cells #[.func (.func bf) f cap] 229)).alloc (.cells #[.int .i64 (8+2*(s.depth:Int))] 3)).heap.size=w.heap.size+1+1+1:=by rw [size_alloc,hs2]
 have hc2:ah w (((w.alloc (.cells #[.pointer (some ⟨b.a,0,none⟩)] 96)).alloc (.cells #[.func (.func bf) f cap] 229)).alloc (.cells #[.int .i64 (8+2*(s.depth:Int))] 3)) []:=(((ah.refl w []).alloc _).alloc _).alloc _;generalize (((w.alloc (.cells #[.pointer (some ⟨b.a,0,none⟩)] 96)).alloc (.cells #[.func (.func bf) f cap] 229)).alloc (.cells #[.int .i64 (8+2*(s.depth:Int))] 3))=w2 at *;have hp2:=HP0.out.bJ hc2;have y6:=hp2.blk.cell' (i:=6) rfl;have g6:=hp2.blk.frozen 6;have hl2:=hp2.blk.lt;have hcd:ah w2 (w2.setCell ⟨b.a,6,none⟩ (.int .i64 ((s.depth:Int)+1))) [b.a]:=(ah.refl w2 _).setCell _ _ (.inl (by simp))
 have hp3:KB (w2.setCell ⟨b.a,6,none⟩ (.int .i64 ((s.depth:Int)+1))) b p0 { s with depth:=s.depth+1,names:=s.names }:=hp2.ail hcd (s.depth+1) s.names (by
  have:=hp2.blk.aK 6 (.int .i64 ((s.depth:Int)+1));rw [show((s.depth+1:Nat):Int)=(s.depth:Int)+1 by omega]
  exact this) { hp2.wf with dep:=by have:=HD.out; show s.depth+1<=11; omega }
 have Vr:∀ k∈F,k<w.heap.size:=HK.out.lt;have hba:b.a∈F:=by rw [HF0.out]; exact KP.bg (i:=0) (by simp [KP.part])
 have hbne:∀ k,w.heap.size<=k->k∉[b.a]:=fun k hk hm=>by
  have:=Vr _ hba;simp at hm;omega
 have b3':=b3.aj hcd (hbne _ (Nat.le_refl _));have b5':=b5.aj hcd (hbne _ (Nat.le_succ _));have b6':=b6.aj hcd (hbne _ (by omega));have apF:KR (w2.setCell ⟨b.a,6,none⟩ (.int .i64 ((s.depth:Int)+1))) b { s with depth:=s.depth+1 } F:=⟨p0,hp3,HFS.out,HF0.out⟩
 have hc3:ah w (w2.setCell ⟨b.a,6,none⟩ (.int .i64 ((s.depth:Int)+1))) F:=(hc2.more (by simp)).trans (hcd.more (D':=F) (fun k hk=>.inl (by simp at hk; exact hk▸hba))) (fun k hk=>.inl hk);have hsz3:(w2.setCell ⟨b.a,6,none⟩ (.int .i64 ((s.depth:Int)+1))).heap.size=w.heap.size+1+1+1:=by rw [size_setCell,hsz]
 have B3:=hide b3';have B5:=hide b5';have B6:=hide b6';have jC:=hide hc3;have HZ3:=hide hsz3;have z3:=b3'.cell' (i:=0) rfl;have hm:=oL apF 1 false (Nat.le_refl _) HA1.out (by have:=HA2.out; show s.names+1<=_; omega);have x3:=b3.cell' (i:=0) rfl;have HFL:=hide Vr;clear hs1 hs2 b3 b5 b6 hsz hc2 hp2 hcd hp3 b3' b5' b6' apF hc3 hsz3 c6 f6 Vr hbne;go_wp2_with (go_at_call 82; refine hm.mono ?_);rintro e w3 ⟨rfl,hc4,F3,hs4,p,hp,hf,rfl⟩;have hz3:=HZ3.out;have nk:∀ k,w.heap.size<=k->k<w.heap.size+1+1+1->k∉F:=fun k h1 h2 hm=>by have:=HFL.out k hm; omega
 have nk3:∀ k,w.heap.size<=k->k<w.heap.size+1+1+1->k∉p.foot b.a:=fun k h1 h2=>jP hs4 (nk k h1 h2) (by rw [hz3]; exact h2);have b3:=B3.out.aj hc4 (nk _ (Nat.le_refl _) (by omega));have b5:=B5.out.aj hc4 (nk _ (by omega) (by omega));have b6:=B6.out.aj hc4 (nk _ (by omega) (by omega));have jB:Hid (ah w w3 F):=hide (jC.out.trans hc4 (fun k hk=>.inl hk))
 have J9:Hid (Sub (p.foot b.a) F w):=hide (fun k hk=>by
  rcases hs4 k hk with h | h
  . exact .inl h
  . exact .inr (by rw [hz3] at h; omega))
 have q3:=b3.cell' (i:=0) rfl;have q6:=b6.cell' (i:=0) rfl;have HPF:=hide hf;have HP:=hide hp;have HB3:=hide b3;have jS:=hide b5;have DV:=hide b6;have HNK:=hide nk3;have HNP:=hide (fun k hk=>hp.flt k hk);clear hm hc4 hs4 hp hf b3 b5 b6 nk nk3 hz3 x3 z3 y6 g6 B3 B5 B6;go_upto_region 4 with(fail)
 change Code.wp _ _ _ _ (w3.alloc (.cells #[.int .i64 (s.used:Int)] 3));have apG:ah w3 (w3.alloc (.cells #[.int .i64 (s.used:Int)] 3)) []:=(ah.refl w3 []).alloc _;have b7:=aC.new w3 3 [.int .i64 (s.used:Int)];have b3:=HB3.out.alloc (.cells #[.int .i64 (s.used:Int)] 3);have b5:=jS.out.alloc (.cells #[.int .i64 (s.used:Int)] 3);have b6:=DV.out.alloc (.cells #[.int .i64 (s.used:Int)] 3);have jW:=HP.out.bJ apG;have n7:w3.heap.size∉p.foot b.a:=fun hm=>by have:=HNP.out _ hm; omega
 have hbp:b.a∈p.foot b.a:=KP.bg (i:=0) (by simp [KP.part]);have ab3:Hid (ah w (w3.alloc (.cells #[.int .i64 (s.used:Int)] 3)) F):=hide (jB.out.alloc _);generalize ZI:w3.heap.size=k7 at *;generalize w3.alloc (.cells #[.int .i64 (s.used:Int)] 3)=w4 at *
 have hbne:∀ k∈[w.heap.size,w.heap.size+1+1,k7,w.heap.size+1],k∉p.foot b.a:=fun k hk=>by
  simp only [List.mem_cons,List.not_mem_nil,or_false] at hk;rcases hk with rfl | rfl | rfl | rfl
  . exact HNK.out _ (Nat.le_refl _) (by omega)
  . exact HNK.out _ (by omega) (by omega)
  . exact n7
  . exact HNK.out _ (by omega) (by omega)
 have hb1:∀ k∈[w.heap.size,w.heap.size+1+1,k7,w.heap.size+1],k∉[b.a]:=fun k hk hm=>hbne k hk (by simp at hm; exact hm▸hbp);have apH:=hide hbne;have HB:=hide jW;have HN:Hid (s.names+1+1<=100000):=hide (by have:=HA2.out; omega)
 have BQ:=hide (show ∀ L w1,W2 9 11 (fun w'=>ah w4 w' []) (fun w'=>ah w4 w' [b.a]/\KB w' b p { (({ s with depth:=s.depth+1 }:KS).room 1 false) with names:=s.names+1+1 }) (fun w'=>ah w4 w' (p.foot b.a)/\∃ p3,KB w' b p3 ({ s2 with rc:=⟨38,(8+2*s.depth:Nat),(9+2*s.depth:Nat),0,0⟩::⟨31,(8+2*s.depth:Nat),(8+2*s.depth:Nat),0,1⟩::s2.rc,nc:=s2.nc+2,ru:=(s.names+1+1,s2.nc+1)::s2.ru }:KS)/\nM p3.fs s2/\Sub (p3.foot b.a) (p.foot b.a) w4) L w1->L 11=false->w1.cell? ⟨w.heap.size,0,none⟩=some (.pointer (some ⟨b.a,0,none⟩)) from by
  intro L w1 hW h11
  cases h9:L 9 with
  | false=>exact(b3.aj (W2.a hW h9 h11) (by simp)).cell' (i:=0) rfl
  | true=>exact(b3.aj (W2.b hW h9 h11).1 (hb1 _ (by simp))).cell' (i:=0) rfl)
 have HCB:=hide (show ∀ L w1,W2 9 11 (fun w'=>ah w4 w' []) (fun w'=>ah w4 w' [b.a]/\KB w' b p { (({ s with depth:=s.depth+1 }:KS).room 1 false) with names:=s.names+1+1 }) (fun w'=>ah w4 w' (p.foot b.a)/\∃ p3,KB w' b p3 ({ s2 with rc:=⟨38,(8+2*s.depth:Nat),(9+2*s.depth:Nat),0,0⟩::⟨31,(8+2*s.depth:Nat),(8+2*s.depth:Nat),0,1⟩::s2.rc,nc:=s2.nc+2,ru:=(s.names+1+1,s2.nc+1)::s2.ru }:KS)/\nM p3.fs s2/\Sub (p3.foot b.a) (p.foot b.a) w4) L w1->L 11=false->w1.cell? ⟨w.heap.size+1+1,0,none⟩=some (.int .i64 ((8+2*s.depth:Nat):Int)) from by
  intro L w1 hW h11
  cases h9:L 9 with
  | false=>exact(b6.aj (W2.a hW h9 h11) (by simp)).cell' (i:=0) rfl
  | true=>exact(b6.aj (W2.b hW h9 h11).1 (hb1 _ (by simp))).cell' (i:=0) rfl)
 have awX:=hide b3
 have mg:=hide (show ∀ L w1,W2 9 11 (fun w'=>ah w4 w' []) (fun w'=>ah w4 w' [b.a]/\KB w' b p { (({ s with depth:=s.depth+1 }:KS).room 1 false) with names:=s.names+1+1 }) (fun w'=>ah w4 w' (p.foot b.a)/\∃ p3,KB w' b p3 ({ s2 with rc:=⟨38,(8+2*s.depth:Nat),(9+2*s.depth:Nat),0,0⟩::⟨31,(8+2*s.depth:Nat),(8+2*s.depth:Nat),0,1⟩::s2.rc,nc:=s2.nc+2,ru:=(s.names+1+1,s2.nc+1)::s2.ru }:KS)/\nM p3.fs s2/\Sub (p3.foot b.a) (p.foot b.a) w4) L w1->L 11=false->w1.cell? ⟨b.a,0,none⟩=some (.pointer (some ⟨p.bb,0,none⟩)) from by
  intro L w1 hW h11
  cases h9:L 9 with
  | false=>exact(HB.out.blk.aj (W2.a hW h9 h11) (by simp)).cell' (i:=0) rfl
  | true=>exact(W2.b hW h9 h11).2.blk.cell' (i:=0) rfl)
 have hbq:=apB s n
 have HLC:=hide (show ∀ w1,ah w4 w1 [b.a]->KB w1 b p { (({ s with depth:=s.depth+1 }:KS).room 1 false) with names:=s.names+1+1 }->_ from fun w1 h1 h2 =>
  YO (s:={ (({ s with depth:=s.depth+1 }:KS).room 1 false) with names:=s.names+1+1 }) h2 HPF.out (Nat.succ_le_succ (Nat.zero_le _)) HD.out NI.out uy.out HNC.out w.heap.size (w.heap.size+1+1) k7 (w.heap.size+1) s.used bf f cap s2
   (amK (s:=(({ s with depth:=s.depth+1 }:KS).room 1 false)) HB.out.wf HD.out NI.out uy.out HN.out)
   (apD (s:=(({ s with depth:=s.depth+1 }:KS).room 1 false)) HB.out.wf HN.out (by have:=HNC.out; show s.nc<=_; omega))
   (b3.aj h1 (hb1 _ (by simp))) (b6.aj h1 (hb1 _ (by simp))) (b7.aj h1 (hb1 _ (by simp))) (b5.aj h1 (hb1 _ (by simp))) apH.out (by have:=HA1.out; omega) hcl HC2.out
   (fun w5 F5 hk5 hc5 hs5=>kM.out w5 F5 hk5 (ab3.out.trans ((h1.more (D':=p.foot b.a) (fun k hk=>.inl (by simp at hk; exact hk▸hbp))).trans hc5 (fun k hk=>.inl hk)) (fun k hk=>J9.out k hk)) (fun k hk=>by
     rcases hs5 k hk with h | h
     . exact J9.out k h
     . exact .inr (by have:=ab3.out.size; have:=h1.size; omega))))
 have HLE:=hide (show ∀ w1,ah w4 w1 [b.a]->KB w1 b p { (({ s with depth:=s.depth+1 }:KS).room 1 false) with names:=s.names+1+1 }->∀(e:Ending) w2,(e=.returned (.int .i64 0)/\ah w1 w2 (p.foot b.a)/\∃ p3,KB w2 b p3 ({ s2 with rc:=⟨38,(8+2*s.depth:Nat),(9+2*s.depth:Nat),0,0⟩::⟨31,(8+2*s.depth:Nat),(8+2*s.depth:Nat),0,1⟩::s2.rc,nc:=s2.nc+2,ru:=(s.names+1+1,s2.nc+1)::s2.ru }:KS)/\nM p3.fs s2/\Sub (p3.foot b.a) (p.foot b.a) w1)->e=.returned (.int .i64 0)/\(fun w'=>ah w4 w' (p.foot b.a)/\∃ p3,KB w' b p3 ({ s2 with rc:=⟨38,(8+2*s.depth:Nat),(9+2*s.depth:Nat),0,0⟩::⟨31,(8+2*s.depth:Nat),(8+2*s.depth:Nat),0,1⟩::s2.rc,nc:=s2.nc+2,ru:=(s.names+1+1,s2.nc+1)::s2.ru }:KS)/\nM p3.fs s2/\Sub (p3.foot b.a) (p.foot b.a) w4) w2 from fun w1 h1 h2 e w2 hq=>by
  obtain⟨rfl,hc,p3,hk3,hf3,hs3⟩:=hq;refine⟨rfl,(h1.more (D':=p.foot b.a) (fun k hk=>.inl (by simp at hk; exact hk▸hbp))).trans hc (fun k hk=>.inl hk),p3,hk3,hf3,fun k hk=>?_⟩;rcases hs3 k hk with h | h
  . exact .inl h
  . exact .inr (Nat.le_trans h1.size h))
 clear b3 b5 b6 b7 jW n7 hbne hb1 apG q3 q6 HB3 jS DV HNK HNP hbq;refine iC fG.out _ _ (fun _=>Rk b.a p.bb w.heap.size (w.heap.size+1+1) k7 (w.heap.size+1) (8+2*s.depth) n (s.names+1)) (fun(_:Unit) L w'=>W2 9 11 (fun w'=>ah w4 w' []) (fun w'=>ah w4 w' [b.a]/\KB w' b p { (({ s with depth:=s.depth+1 }:KS).room 1 false) with names:=s.names+1+1 }) (fun w'=>ah w4 w' (p.foot b.a)/\∃ p3,KB w' b p3 ({ s2 with rc:=⟨38,(8+2*s.depth:Nat),(9+2*s.depth:Nat),0,0⟩::⟨31,(8+2*s.depth:Nat),(8+2*s.depth:Nat),0,1⟩::s2.rc,nc:=s2.nc+2,ru:=(s.names+1+1,s2.nc+1)::s2.ru }:KS)/\nM p3.fs s2/\Sub (p3.foot b.a) (p.foot b.a) w4) L w') () (by kernel_rfl) [] (by kernel_rfl) (fun p hp γ=>by simp at hp) (by kernel_rfl) ?step ?start ?fin ?ext
 case start=>exact(ah.refl w4 []).drew
 case ext=>exact fun γ L L' w' h hw=>hw.ext (h 9 (by decide)) (h 11 (by decide))
 case step =>
  intro i o ho L av w1 γ hdn ak hW hL hpre K Q hK
  match i,ho with
  | 0,ho =>
   injection ho with ho; subst ho;have b3:av.tmps.getD 3 undef=.pointer (some ⟨w.heap.size,0,none⟩):=fM ak 3 (by kernel_rfl);clear ak
   have l11:L 11=false:=by
    cases h:L 11 with
    | false=>rfl
    | true =>
     have h3:L 3=true:=hdn 11 _ rfl h ⟨3,.data⟩ (by simp) rfl;have h2:L 2=true:=hdn 3 _ rfl h3 ⟨2,.data⟩ (by simp) rfl;have h1:L 1=true:=hdn 2 _ rfl h2 ⟨1,.data⟩ (by simp) rfl;have h0:L 0=true:=hdn 1 _ rfl h1 ⟨0,.data⟩ (by simp) rfl;rw [hL] at h0; cases h0
   have y:=BQ.out L w1 hW l11;refine au ?_ (hK () w1 (fun _ _=>rfl) (W2.keep (by decide) (by decide) hW)); go_simp; rfl
  | 1,ho =>
   injection ho with ho; subst ho;have s0:=aJ ak 23 0 (by kernel_rfl) (hpre ⟨0,.data⟩ (by simp) rfl);simp only [Rk] at s0;clear ak;refine au ?_ (hK () w1 (fun _ _=>rfl) (W2.keep (by decide) (by decide) hW)); go_simp; rfl
  | 2,ho =>
   injection ho with ho; subst ho;have s1:=aJ ak 24 1 (by kernel_rfl) (hpre ⟨1,.data⟩ (by simp) rfl);simp only [Rk] at s1;clear ak;refine au ?_ (hK () w1 (fun _ _=>rfl) (W2.keep (by decide) (by decide) hW)); go_simp; rfl
  | 3,ho =>
   injection ho with ho; subst ho;have s2:=aJ ak 25 2 (by kernel_rfl) (hpre ⟨2,.data⟩ (by simp) rfl);simp only [Rk] at s2;clear ak
   have l11:L 11=false:=by
    cases h:L 11 with
    | false=>rfl
    | true =>
     have h3:L 3=true:=hdn 11 _ rfl h ⟨3,.data⟩ (by simp) rfl;rw [hL] at h3; cases h3
   have y:=mg.out L w1 hW l11;refine au ?_ (hK () w1 (fun _ _=>rfl) (W2.keep (by decide) (by decide) hW)); go_simp; rfl
  | 4,ho =>
   injection ho with ho; subst ho;have b6:av.tmps.getD 6 undef=.pointer (some ⟨w.heap.size+1+1,0,none⟩):=fM ak 6 (by kernel_rfl);clear ak
   have l11:L 11=false:=by
    cases h:L 11 with
    | false=>rfl
    | true =>
     have h4:L 4=true:=hdn 11 _ rfl h ⟨4,.data⟩ (by simp) rfl;rw [hL] at h4; cases h4
   have y:=HCB.out L w1 hW l11;refine au ?_ (hK () w1 (fun _ _=>rfl) (W2.keep (by decide) (by decide) hW)); go_simp; rfl
  | 5,ho =>
   injection ho with ho; subst ho;have b6:av.tmps.getD 6 undef=.pointer (some ⟨w.heap.size+1+1,0,none⟩):=fM ak 6 (by kernel_rfl);clear ak
   have l11:L 11=false:=by
    cases h:L 11 with
    | false=>rfl
    | true =>
     have h6:L 6=true:=hdn 11 _ rfl h ⟨6,.data⟩ (by simp) rfl;have h5:L 5=true:=hdn 6 _ rfl h6 ⟨5,.data⟩ (by simp) rfl;rw [hL] at h5; cases h5
   have y:=HCB.out L w1 hW l11;refine au ?_ (hK () w1 (fun _ _=>rfl) (W2.keep (by decide) (by decide) hW)); go_simp; rfl
  | 6,ho =>
   injection ho with ho; subst ho;have s5:=aJ ak 28 5 (by kernel_rfl) (hpre ⟨5,.data⟩ (by simp) rfl);simp only [Rk] at s5;clear ak;refine au (v:=.int .i64 ((8+2*s.depth+1:Nat):Int)) ?_ (hK () w1 (fun _ _=>rfl) (W2.keep (by decide) (by decide) hW));go_simp;rw [IntKind.wrap_i64];have:=HD.out;omega
  | 7,ho =>
   injection ho with ho; subst ho;have b1:av.tmps.getD 1 undef=.int .i64 (n:Int):=fM ak 1 (by kernel_rfl);clear ak;refine au ?_ (hK () w1 (fun _ _=>rfl) (W2.keep (by decide) (by decide) hW)); go_simp; rfl
  | 8,ho =>
   injection ho with ho; subst ho;have b3:av.tmps.getD 3 undef=.pointer (some ⟨w.heap.size,0,none⟩):=fM ak 3 (by kernel_rfl);clear ak
   have l11:L 11=false:=by
    cases h:L 11 with
    | false=>rfl
    | true =>
     have h9:L 9=true:=hdn 11 _ rfl h ⟨9,.data⟩ (by simp) rfl;have h8:L 8=true:=hdn 9 _ rfl h9 ⟨8,.data⟩ (by simp) rfl;rw [hL] at h8; cases h8
   have y:=BQ.out L w1 hW l11;refine au ?_ (hK () w1 (fun _ _=>rfl) (W2.keep (by decide) (by decide) hW)); go_simp; rfl
  | 9,ho =>
   injection ho with ho; subst ho;have s8:=aJ ak 31 8 (by kernel_rfl) (hpre ⟨8,.data⟩ (by simp) rfl);simp only [Rk] at s8;clear ak
   have l11:L 11=false:=by
    cases h:L 11 with
    | false=>rfl
    | true =>
     have h9:L 9=true:=hdn 11 _ rfl h ⟨9,.data⟩ (by simp) rfl;rw [hL] at h9; cases h9
   have hA:=W2.a hW hL l11;refine gU (f:=141) (args:=#[.pointer (some ⟨b.a,0,none⟩),.string ⟨#[108]⟩]) ?_ (ND (HB.out.bJ hA) 108 HN.out) ?_
   . go_simp
   . rintro e w2 ⟨rfl,hc,hk⟩
     exact⟨_,rfl,hK () w2 (fun _ _=>rfl) (W2.ao1 (by decide) l11 ⟨(hA.more (by simp)).trans hc (fun k hk=>.inl hk),hk⟩)⟩
  | 10,ho =>
   injection ho with ho; subst ho;have b3:av.tmps.getD 3 undef=.pointer (some ⟨w.heap.size,0,none⟩):=fM ak 3 (by kernel_rfl);have b6:av.tmps.getD 6 undef=.pointer (some ⟨w.heap.size+1+1,0,none⟩):=fM ak 6 (by kernel_rfl);have b7:av.tmps.getD 7 undef=.pointer (some ⟨k7,0,none⟩):=fM ak 7 (by kernel_rfl);have b5:av.tmps.getD 5 undef=.pointer (some ⟨w.heap.size+1,0,none⟩):=fM ak 5 (by kernel_rfl);clear ak;refine au ?_ (hK () w1 (fun _ _=>rfl) (W2.keep (by decide) (by decide) hW)); go_simp; rfl
  | 11,ho =>
   injection ho with ho; subst ho;have s3:=aJ ak 26 3 (by kernel_rfl) (hpre ⟨3,.data⟩ (by simp) rfl);have s4:=aJ ak 27 4 (by kernel_rfl) (hpre ⟨4,.data⟩ (by simp) rfl);have s6:=aJ ak 29 6 (by kernel_rfl) (hpre ⟨6,.data⟩ (by simp) rfl);have s7:=aJ ak 30 7 (by kernel_rfl) (hpre ⟨7,.data⟩ (by simp) rfl);have l9:=hpre ⟨9,.data⟩ (by simp) rfl;have s9:=aJ ak 32 9 (by kernel_rfl) l9;have s10:=aJ ak 33 10 (by kernel_rfl) (hpre ⟨10,.data⟩ (by simp) rfl);simp only [Rk] at s3 s4 s6 s7 s9 s10;clear ak;have l9:=hpre ⟨9,.data⟩ (by simp) rfl;obtain⟨hcB,hkB⟩:=W2.b hW l9 hL;refine gU (f:=388) (args:=#[.pointer (some ⟨p.bb,0,none⟩),.int .i64 ((8+2*s.depth:Nat):Int),.int .i64 ((9+2*s.depth:Nat):Int),.int .i64 (n:Int),bH (jg (s.names+1+1)),.func (.func 389) #[] #[.pointer (some ⟨w.heap.size,0,none⟩),.pointer (some ⟨w.heap.size+1+1,0,none⟩),.pointer (some ⟨k7,0,none⟩),.pointer (some ⟨w.heap.size+1,0,none⟩)]]) ?_ (HLC.out w1 hcB hkB) ?_
   . unfold bH jg; go_simp; omega
   . intro e w2 hq
     obtain⟨rfl,hC⟩:=HLE.out w1 hcB hkB e w2 hq;exact⟨_,rfl,hK () w2 (fun _ _=>rfl) (W2.ao2 hC)⟩
  | _+12,ho=>cases ho
 case fin =>
 intro γ w1 hW;rw [jc,gy,iM];simp only [List.map_cons,List.map_nil];rw [apE];simp only [Rk];have hW:(fun w'=>ah w4 w' (p.foot b.a)/\∃ p3,KB w' b p3 ({ s2 with rc:=⟨38,(8+2*s.depth:Nat),(9+2*s.depth:Nat),0,0⟩::⟨31,(8+2*s.depth:Nat),(8+2*s.depth:Nat),0,1⟩::s2.rc,nc:=s2.nc+2,ru:=(s.names+1+1,s2.nc+1)::s2.ru }:KS)/\nM p3.fs s2/\Sub (p3.foot b.a) (p.foot b.a) w4) w1:=hW;obtain⟨hc1,p3,hk3,hf3,hs3⟩:=hW;have x3:=(awX.out.aj hc1 (apH.out _ (by simp))).cell' (i:=0) rfl
 have y6:w1.cell? ⟨b.a,6,none⟩=some (.int .i64 ((s.depth:Int)+1)):=by
  have:=hk3.blk.cell' (i:=6) rfl;rw [this,show((({ s2 with rc:=⟨38,(8+2*s.depth:Nat),(9+2*s.depth:Nat),0,0⟩::⟨31,(8+2*s.depth:Nat),(8+2*s.depth:Nat),0,1⟩::s2.rc,nc:=s2.nc+2,ru:=(s.names+1+1,s2.nc+1)::s2.ru }:KS).depth:Nat):Int)=(s.depth:Int)+1 by have:=HS2.out; show((s2.depth:Nat):Int)=_; omega]
 have g6:=hk3.blk.frozen 6;have hl1:=hk3.blk.lt;have hw9:wrap64 ((s.depth:Int)+1 - 1)=(s.depth:Int):=by have:=HD.out; unfold wrap64; omega
 have Gp:=hide hk3;have bZ:=hide hc1;have HF3:=hide hf3;have U6:=hide hs3;clear hc1 hk3 hf3 hs3 hwa hwb hwc hlt;go_wp2;refine bodyPost_end (results_none rfl _ _ _) rfl ?_;have hcd:ah w1 (w1.setCell ⟨b.a,6,none⟩ (.int .i64 (s.depth:Int))) [b.a]:=(ah.refl w1 _).setCell _ _ (.inl (by simp));have hfin:=apC HS2.out (s.names+2);have hk4:KB (w1.setCell ⟨b.a,6,none⟩ (.int .i64 (s.depth:Int))) b p3 { ({ s2 with rc:=⟨38,(8+2*s.depth:Nat),(9+2*s.depth:Nat),0,0⟩::⟨31,(8+2*s.depth:Nat),(8+2*s.depth:Nat),0,1⟩::s2.rc,nc:=s2.nc+2,ru:=(s.names+1+1,s2.nc+1)::s2.ru }:KS) with depth:=s.depth,names:=s2.names }:=Gp.out.ail hcd s.depth s2.names (Gp.out.blk.aK 6 (.int .i64 (s.depth:Int))) { Gp.out.wf with dep:=by have:=HD.out; show s.depth<=11; omega };have hx:({ ({ s2 with rc:=⟨38,(8+2*s.depth:Nat),(9+2*s.depth:Nat),0,0⟩::⟨31,(8+2*s.depth:Nat),(8+2*s.depth:Nat),0,1⟩::s2.rc,nc:=s2.nc+2,ru:=(s.names+1+1,s2.nc+1)::s2.ru }:KS) with depth:=s.depth,names:=s2.names }:KS)=s2.fin (s.names+2):=by rw [hfin]
 rw [hx] at hk4;have hbp:b.a∈p.foot b.a:=KP.bg (i:=0) (by simp [KP.part]);have hc5:ah w4 (w1.setCell ⟨b.a,6,none⟩ (.int .i64 (s.depth:Int))) (p.foot b.a):=bZ.out.trans (hcd.more (D':=p.foot b.a) (fun k hk=>.inl (by simp at hk; exact hk▸hbp))) (fun k hk=>.inl hk);refine⟨rfl,ab3.out.trans hc5 (fun k hk=>J9.out k hk),p3.foot b.a,fun k hk=>?_,p3,hk4,?_,rfl⟩
 . rcases U6.out k hk with h | h
   . exact J9.out k h
   . exact .inr (Nat.le_trans ab3.out.size h)
 . rw [hfin]
   exact HF3.out
end
end

section
open Go Go.RowKit Go.Deep Go.Maps Ab Xi
attribute [local go_sem] Oper.semAt_some
theorem Hw:(Tryz.prog.info? 3).map (fun i=>(i.zero,i.size,i.bytes))=some (some (.int .i64 0),1,8):=by kernel_rfl
theorem Rl(l:List Nat):∀ u∈ints l,u.oneCell'=true:=fun u hu=>by
 obtain⟨n,_,rfl⟩:=List.mem_map.1 hu;rfl
theorem LG(l:List Nat):(ints l).length=l.length:=List.length_map ..
section
variable {w w4:World} {b:MP} {p:KP} {s:KS}
theorem KB.atP(h:KB w b p s){v:Value}{l:List Nat}{n:Nat}(hc:ah w w4 p.tv.ownBlock.toList)(ho:w4.ownsRow 0 3 1 v n (ints l.reverse))(hs:Sub v.ownBlock.toList p.tv.ownBlock.toList w)(hn:n=l.length)(hw:({ s with rt:=l,nt:=n }:KS).WF) :
 KB (w4.setCell ⟨b.a,5,none⟩ v) b { p with tv:=v } { s with rt:=l,nt:=n }/\ah w (w4.setCell ⟨b.a,5,none⟩ v) (p.foot b.a)/\Sub (KP.foot b.a { p with tv:=v }) (p.foot b.a) w:=by
 have hx:ah w4 (w4.setCell ⟨b.a,5,none⟩ v) [b.a]:=(ah.refl w4 _).setCell _ _ (.inl (by simp))
 have hsw:∀ j,j≠6->KP.part b.a { p with tv:=v } j=p.part b.a j:=fun i hi=>by
  rcases i with _ | _ | _ | _ | _ | _ | _ | _ | _ | _ | i
  case succ.succ.succ.succ.succ.succ.zero=>exact absurd rfl hi
  all_goals rfl
 have hb4:=h.blk.aj hc fun hm=>h.apart 0 6 b.a (by decide) (by simp [KP.part]) hm
 have hv:b.a∉v.ownBlock.toList:=fun hm=>by
  rcases hs _ hm with h1 | h1
  . exact h.apart 0 6 b.a (by decide) (by simp [KP.part]) h1
  . have:=h.blk.lt; omega
 have hD:∀ i,i≠0->∀ k∈p.part b.a i,k∉[b.a]:=fun i hi k hk hm=>h.apart i 0 k hi hk hm;subst hn
 refine ⟨{
  o8:=h.o8
  blk:=hb4.aK 5 v
  nK:=(h.nK.aj hc fun k hk hm=>h.apart 1 6 k (by decide) hk hm).aj hx (hD 1 (by decide))
  plan:=(h.plan.aj hc (fun hm=>h.apart 2 6 _ (by decide) (by simp [KP.part]) hm) fun k hk hm=>h.apart 9 6 k (by decide) hk hm).aj hx (hD 2 (by decide) _ (by simp [KP.part])) (hD 9 (by decide))
  data:=(h.data.aj hc fun hm=>h.apart 3 6 _ (by decide) (by simp [KP.part]) hm).aj hx (hD 3 (by decide) _ (by simp [KP.part]))
  sec:=(h.sec.aj hc fun hm=>h.apart 4 6 _ (by decide) (by simp [KP.part]) hm).aj hx (hD 4 (by decide) _ (by simp [KP.part]))
  cons:=(h.cons.aj hc fun hm=>h.apart 5 6 _ (by decide) (by simp [KP.part]) hm).aj hx (hD 5 (by decide) _ (by simp [KP.part]))
  tabs:=aH ho hx fun g hg hm=>hv (by simp at hm; exact hm▸Option.mem_toList.2 hg)
  inn:=aH (aH h.inn hc fun g hg=>bM (fun k hk hm=>h.apart 7 6 k (by decide) hk hm) hg) hx fun g hg=>bM (hD 7 (by decide)) hg
  out:=aH (aH h.out hc fun g hg=>bM (fun k hk hm=>h.apart 8 6 k (by decide) hk hm) hg) hx fun g hg=>bM (hD 8 (by decide)) hg
  wf:=hw
  nd:=h.nd
  ns:=h.ns
  l7:=h.l7
  apart:=h.apart.swap (w:=w) 6 h.lt hs hsw
  jF:=(h.jF.aj hc fun k hk=>h.high 6 k hk).aj hx fun k hk=>by
   simp at hk;exact hk▸h.high 0 b.a (by simp [KP.part])
  high:=KP.xO (w:=w) h.high 6 h.jF.size hs hsw },?_,KP.Am 6 hs hsw⟩
 exact(hc.more (D':=p.foot b.a) fun k hk=>.inl (KP.bg (i:=6) hk)).setCell _ _ (.inl (KP.bg (i:=0) (by simp [KP.part])))
theorem KB.awY(h:KB w b p s){v:Value}{l:List Nat}{n:Nat}(hc:ah w w4 p.iv.ownBlock.toList)(ho:w4.ownsRow 0 3 1 v n (ints l.reverse))(hs:Sub v.ownBlock.toList p.iv.ownBlock.toList w)(hn:n=l.length)(hw:({ s with ri:=l }:KS).WF) :
 KB (w4.setCell ⟨b.a,11,none⟩ v) b { p with iv:=v } { s with ri:=l }/\ah w (w4.setCell ⟨b.a,11,none⟩ v) (p.foot b.a)/\Sub (KP.foot b.a { p with iv:=v }) (p.foot b.a) w:=by
 have hx:ah w4 (w4.setCell ⟨b.a,11,none⟩ v) [b.a]:=(ah.refl w4 _).setCell _ _ (.inl (by simp))
 have hsw:∀ j,j≠7->KP.part b.a { p with iv:=v } j=p.part b.a j:=fun i hi=>by
  rcases i with _ | _ | _ | _ | _ | _ | _ | _ | _ | _ | i
  case succ.succ.succ.succ.succ.succ.succ.zero=>exact absurd rfl hi
  all_goals rfl
 have hb4:=h.blk.aj hc fun hm=>h.apart 0 7 b.a (by decide) (by simp [KP.part]) hm
 have hv:b.a∉v.ownBlock.toList:=fun hm=>by
  rcases hs _ hm with h1 | h1
  . exact h.apart 0 7 b.a (by decide) (by simp [KP.part]) h1
  . have:=h.blk.lt; omega
 have hD:∀ i,i≠0->∀ k∈p.part b.a i,k∉[b.a]:=fun i hi k hk hm=>h.apart i 0 k hi hk hm;subst hn
 refine ⟨{
  o8:=h.o8
  blk:=hb4.aK 11 v
  nK:=(h.nK.aj hc fun k hk hm=>h.apart 1 7 k (by decide) hk hm).aj hx (hD 1 (by decide))
  plan:=(h.plan.aj hc (fun hm=>h.apart 2 7 _ (by decide) (by simp [KP.part]) hm) fun k hk hm=>h.apart 9 7 k (by decide) hk hm).aj hx (hD 2 (by decide) _ (by simp [KP.part])) (hD 9 (by decide))
  data:=(h.data.aj hc fun hm=>h.apart 3 7 _ (by decide) (by simp [KP.part]) hm).aj hx (hD 3 (by decide) _ (by simp [KP.part]))
  sec:=(h.sec.aj hc fun hm=>h.apart 4 7 _ (by decide) (by simp [KP.part]) hm).aj hx (hD 4 (by decide) _ (by simp [KP.part]))
  cons:=(h.cons.aj hc fun hm=>h.apart 5 7 _ (by decide) (by simp [KP.part]) hm).aj hx (hD 5 (by decide) _ (by simp [KP.part]))
  tabs:=aH (aH h.tabs hc fun g hg=>bM (fun k hk hm=>h.apart 6 7 k (by decide) hk hm) hg) hx fun g hg=>bM (hD 6 (by decide)) hg
  inn:=aH ho hx fun g hg hm=>hv (by simp at hm; exact hm▸Option.mem_toList.2 hg)
  out:=aH (aH h.out hc fun g hg=>bM (fun k hk hm=>h.apart 8 7 k (by decide) hk hm) hg) hx fun g hg=>bM (hD 8 (by decide)) hg
  wf:=hw
  nd:=h.nd
  ns:=h.ns
  l7:=h.l7
  apart:=h.apart.swap (w:=w) 7 h.lt hs hsw
  jF:=(h.jF.aj hc fun k hk=>h.high 7 k hk).aj hx fun k hk=>by
   simp at hk;exact hk▸h.high 0 b.a (by simp [KP.part])
  high:=KP.xO (w:=w) h.high 7 h.jF.size hs hsw },?_,KP.Am 7 hs hsw⟩
 exact(hc.more (D':=p.foot b.a) fun k hk=>.inl (KP.bg (i:=7) hk)).setCell _ _ (.inl (KP.bg (i:=0) (by simp [KP.part])))
theorem KB.awZ(h:KB w b p s){v:Value}{l:List Nat}{n:Nat}(hc:ah w w4 p.ov.ownBlock.toList)(ho:w4.ownsRow 0 3 1 v n (ints l.reverse))(hs:Sub v.ownBlock.toList p.ov.ownBlock.toList w)(hn:n=l.length)(hw:({ s with ro:=l }:KS).WF) :
 KB (w4.setCell ⟨b.a,12,none⟩ v) b { p with ov:=v } { s with ro:=l }/\ah w (w4.setCell ⟨b.a,12,none⟩ v) (p.foot b.a)/\Sub (KP.foot b.a { p with ov:=v }) (p.foot b.a) w:=by
 have hx:ah w4 (w4.setCell ⟨b.a,12,none⟩ v) [b.a]:=(ah.refl w4 _).setCell _ _ (.inl (by simp))
 have hsw:∀ j,j≠8->KP.part b.a { p with ov:=v } j=p.part b.a j:=fun i hi=>by
  rcases i with _ | _ | _ | _ | _ | _ | _ | _ | _ | _ | i
  case succ.succ.succ.succ.succ.succ.succ.succ.zero=>exact absurd rfl hi
  all_goals rfl
 have hb4:=h.blk.aj hc fun hm=>h.apart 0 8 b.a (by decide) (by simp [KP.part]) hm
 have hv:b.a∉v.ownBlock.toList:=fun hm=>by
  rcases hs _ hm with h1 | h1
  . exact h.apart 0 8 b.a (by decide) (by simp [KP.part]) h1
  . have:=h.blk.lt; omega
 have hD:∀ i,i≠0->∀ k∈p.part b.a i,k∉[b.a]:=fun i hi k hk hm=>h.apart i 0 k hi hk hm;subst hn
 refine ⟨{
  o8:=h.o8
  blk:=hb4.aK 12 v
  nK:=(h.nK.aj hc fun k hk hm=>h.apart 1 8 k (by decide) hk hm).aj hx (hD 1 (by decide))
  plan:=(h.plan.aj hc (fun hm=>h.apart 2 8 _ (by decide) (by simp [KP.part]) hm) fun k hk hm=>h.apart 9 8 k (by decide) hk hm).aj hx (hD 2 (by decide) _ (by simp [KP.part])) (hD 9 (by decide))
  data:=(h.data.aj hc fun hm=>h.apart 3 8 _ (by decide) (by simp [KP.part]) hm).aj hx (hD 3 (by decide) _ (by simp [KP.part]))
  sec:=(h.sec.aj hc fun hm=>h.apart 4 8 _ (by decide) (by simp [KP.part]) hm).aj hx (hD 4 (by decide) _ (by simp [KP.part]))
  cons:=(h.cons.aj hc fun hm=>h.apart 5 8 _ (by decide) (by simp [KP.part]) hm).aj hx (hD 5 (by decide) _ (by simp [KP.part]))
  tabs:=aH (aH h.tabs hc fun g hg=>bM (fun k hk hm=>h.apart 6 8 k (by decide) hk hm) hg) hx fun g hg=>bM (hD 6 (by decide)) hg
  inn:=aH (aH h.inn hc fun g hg=>bM (fun k hk hm=>h.apart 7 8 k (by decide) hk hm) hg) hx fun g hg=>bM (hD 7 (by decide)) hg
  out:=aH ho hx fun g hg hm=>hv (by simp at hm; exact hm▸Option.mem_toList.2 hg)
  wf:=hw
  nd:=h.nd
  ns:=h.ns
  l7:=h.l7
  apart:=h.apart.swap (w:=w) 8 h.lt hs hsw
  jF:=(h.jF.aj hc fun k hk=>h.high 8 k hk).aj hx fun k hk=>by
   simp at hk;exact hk▸h.high 0 b.a (by simp [KP.part])
  high:=KP.xO (w:=w) h.high 8 h.jF.size hs hsw },?_,KP.Am 8 hs hsw⟩
 exact(hc.more (D':=p.foot b.a) fun k hk=>.inl (KP.bg (i:=8) hk)).setCell _ _ (.inl (KP.bg (i:=0) (by simp [KP.part])))
end
section
variable {w:World} {b:MP} {s:KS} {F:List Nat}
theorem atQ{s:KS}(h:s.WF){a:Nat}(hu:s.rt.length+1<=s.used):({ s with rt:=a::s.rt,nt:=s.nt+1 }:KS).WF :=
 { h with nt:=by show s.nt+1=s.rt.length+1; rw [h.nt],rt:=hu }
theorem Df(h:KR w b s F)(a:Nat)(hu:s.rt.length+1<=s.used) :
 Calls Tryz.prog 83 #[.pointer (some ⟨b.a,0,none⟩),.int .i64 (a:Int)] w (iW (.int .i64 (s.nt:Int)) (s.tab a) b F w):=by
 obtain⟨i0,hi,hz0,hz1,hz2⟩:=info_parts Hw;obtain⟨p,hp,hf,rfl⟩:=h;have HP:=hide hp;have HF:=hide hf;have HU:=hide hu;have hnt:s.nt<=2048:=by have:=hp.wf.nt; have:=hp.wf.rt; have:=hp.wf.used; omega
 have c5:=hp.blk.cell' (i:=5) rfl;have f5:=hp.blk.frozen 5;have hlt:=hp.blk.lt;obtain⟨A,c,hA⟩:=bK hp.tabs;rw [hA] at c5;have HA:=hide hA;have hw1:wrap64 ((s.nt+1:Nat) - 1:Int)=(s.nt:Int):=by unfold wrap64; omega
 clear hp hf hA hu;go_enter Tryz.func83,Tryz.ntmps83
 go_wp2_with (at_builtin; refine wpList_append_lies _ rfl _ _ 64 rfl 0 3 i0 (.int .i64 0) 1 8 Tryz.underlying64 hi hz0 hz1 hz2 rfl (by decide) _ s.nt _ rfl (by rw [<- HA.out]; exact aH HP.out.tabs ((ah.refl w []).alloc _) (by simp)) ⟨w.heap.size,0,none⟩ 1 1 [.int .i64 (a:Int)] rfl rfl (by intro j u hj; match j,hj with | 0,hj=>simp at hj; subst hj; simp [Addr.add]) (by intro u hu; simp at hu; subst hu; rfl) (by decide) (by unfold maxLen; omega) (by omega) (Nat.zero_le _) _ rfl ?_);intro g cap w4 hown hgr hg2 hg3;rw [<- HA.out] at hgr hg2;have hc4:ah w w4 p.tv.ownBlock.toList:=((ah.refl w p.tv.ownBlock.toList).alloc _).trans (ah.fZ (D:=p.tv.ownBlock.toList) hgr (fun k hk=>.inl (by simp [hk]))) (fun k hk=>.inl hk)
 have hsub:Sub (Value.slice (some ⟨g,0,none⟩) (s.nt+1) cap).ownBlock.toList p.tv.ownBlock.toList w:=fun k hk=>by
  have hk:k=g:=by simpa [Value.ownBlock] using hk
  subst hk;rcases hg2 with h | h
  . exact .inl (Option.mem_toList.2 h)
  . exact .inr (by omega)
 have hx:=HP.out.atP (l:=a::s.rt) hc4 (by rw [List.reverse_cons,Q_]; exact hown) hsub (by have:=HP.out.wf.nt; simp; omega) (atQ HP.out.wf HU.out);have y5:=(HP.out.blk.aj hc4 fun hm=>HP.out.apart 0 6 b.a (by decide) (by simp [KP.part]) hm).cell' (i:=5) rfl;have g5:=(HP.out.blk.aj hc4 fun hm=>HP.out.apart 0 6 b.a (by decide) (by simp [KP.part]) hm).frozen 5;have hl4:=(HP.out.blk.aj hc4 fun hm=>HP.out.apart 0 6 b.a (by decide) (by simp [KP.part]) hm).lt;have HX:=hide hx;clear hown hgr hg2 hc4 hsub hx c5 f5;go_wp2;go_ret;obtain⟨h1,h2,h3⟩:=HX.out;exact⟨rfl,h2,_,h3,_,h1,HF.out,rfl⟩
theorem atS{s:KS}(h:s.WF){l:List Nat}(hu:s.ro.length+l.length<=2048):({ s with ro:=l.reverse++s.ro }:KS).WF :=
 { h with ro:=by show(l.reverse++s.ro).length<=2048; rw [List.length_append,List.length_reverse]; omega }
theorem Vs(h:KR w b s F)(l:List Nat)(ad:Addr)(c1:Nat)(hl:0<l.length)(hn:∀ j u,(ints l)[j]?=some u->w.cell? (ad.add j)=some u)(hu:s.ro.length+l.length<=2048) :
 Calls Tryz.prog 58 #[.pointer (some ⟨b.a,0,none⟩),.slice (some ad) l.length c1] w (iW (.tuple #[]) (s.answer l) b F w):=by
 obtain⟨i0,hi,hz0,hz1,hz2⟩:=info_parts Hw;obtain⟨p,hp,hf,rfl⟩:=h;have HP:=hide hp;have HF:=hide hf;have HU:=hide hu;have HN:=hide hn;have HL:=hide hl;have c5:=hp.blk.cell' (i:=12) rfl;have f5:=hp.blk.frozen 12;have hlt:=hp.blk.lt;obtain⟨A,c,hA⟩:=bK hp.out;rw [hA] at c5;have HA:=hide hA;clear hp hf hA hu hn hl;go_enter Tryz.func58,Tryz.ntmps58
 go_wp2_with (at_builtin; refine wpList_append_lies _ rfl _ _ 64 rfl 0 3 i0 (.int .i64 0) 1 8 Tryz.underlying64 hi hz0 hz1 hz2 rfl (by decide) _ s.ro.length _ rfl (by rw [<- HA.out]; exact HP.out.out) ad l.length c1 (ints l) rfl (by rw [LG,Nat.mul_one]) HN.out (Rl l) HL.out (by have:=HU.out; unfold maxLen; omega) (by have:=HU.out; omega) (Nat.zero_le _) _ rfl ?_);intro g cap w4 hown hgr hg2 hg3;rw [<- HA.out] at hgr hg2;have hc4:ah w w4 p.ov.ownBlock.toList:=ah.fZ (D:=p.ov.ownBlock.toList) hgr (fun k hk=>.inl (by simp [hk]))
 have hsub:Sub (Value.slice (some ⟨g,0,none⟩) (s.ro.length+l.length) cap).ownBlock.toList p.ov.ownBlock.toList w:=fun k hk=>by
  have hk:k=g:=by simpa [Value.ownBlock] using hk
  subst hk;rcases hg2 with h | h
  . exact .inl (Option.mem_toList.2 h)
  . exact .inr (by omega)
 have hx:=HP.out.awZ (l:=l.reverse++s.ro) hc4 (by rw [List.reverse_append,List.reverse_reverse,J6]; exact hown) hsub (by simp; omega) (atS HP.out.wf HU.out);have g5:=(HP.out.blk.aj hc4 fun hm=>HP.out.apart 0 8 b.a (by decide) (by simp [KP.part]) hm).frozen 12;have y5:=(HP.out.blk.aj hc4 fun hm=>HP.out.apart 0 8 b.a (by decide) (by simp [KP.part]) hm).cell' (i:=12) rfl;have hl4:=(HP.out.blk.aj hc4 fun hm=>HP.out.apart 0 8 b.a (by decide) (by simp [KP.part]) hm).lt;have HX:=hide hx;clear hown hgr hg2 hc4 hsub hx c5 f5;go_wp2;refine bodyPost_end (results_none rfl _ _ _) rfl ?_;obtain⟨h1,h2,h3⟩:=HX.out;exact⟨rfl,h2,_,h3,_,h1,HF.out,rfl⟩
end
end

section
open Go Go.RowKit Go.Deep Go.Maps Ab Xi
attribute [local go_sem] Oper.semAt_some
theorem EY:∀(n a:Nat),(nJ n a).length=n
 | 0,_=>rfl
 | n+1,a=>by show(nJ n (a+1)).length+1=_; rw [EY n]
theorem Rn:∀(n a:Nat),nJ (n+1) a=nJ n a++[a+n]
 | 0,a=>rfl
 | n+1,a=>by
  show a::nJ (n+1) (a+1)=a::(nJ n (a+1)++[a+(n+1)]);rw [Rn n (a+1),show a+1+n=a+(n+1) by omega]
theorem amL{s:KS}(h:s.WF){n:Nat}(h1:1<=n)(hu:s.used+n<=2048)(hn:s.names+1<=100000):({ (s.room n true) with ri:=(nJ n s.used).reverse++s.ri }:KS).WF :=
 { (show(s.room n true).WF from(DT (sec:=true) h hn h1 hu).rs _) with
   ri:=by
    show((nJ n s.used).reverse++s.ri).length<=s.used+n;rw [List.length_append,List.length_reverse,EY];have:=h.ri
    omega }
theorem amM{w:World}{base e n c:Nat}{A:Option Addr}{xs:List Value}(h:w.ownsRow base e 1 (.slice A n c) n xs)(h0:0<n):n<=c:=by
 rcases h.2 with⟨_,h1⟩ | ⟨g,cap,cur,h1,h2,h3,h4,_⟩
 . omega
 . injection h1 with e1 e2 e3
   subst e3;exact h4
section
variable {w:World} {b:MP} {s:KS} {F:List Nat}
theorem Vt(h:KR w b s F)(n:Nat)(h1:1<=n)(hcan:s.can n=true) :
 Calls Tryz.prog 49 #[.pointer (some ⟨b.a,0,none⟩),.int .i64 (n:Int)] w fun e w'=>∃ g c,e=.returned (.tuple #[.int .i64 (s.nt:Int),.slice (some ⟨g,0,none⟩) n c])/\ah w w' F/\∃ F',Sub F' F w/\KR w' b (s.given n) F'/\w.heap.size<=g/\g<w'.heap.size/\g∉F' /\
  (∀ j u,(ints (nJ n s.used))[j]?=some u->w'.cell? ⟨g,j,none⟩=some u)/\n<=c:=by
 obtain⟨i0,hi,hz0,hz1,hz2⟩:=info_parts Hw;obtain⟨a1,a2,a3⟩:=lU hcan;have hm:=oL h n true h1 a1 (by omega);have A1:=hide a1;have A2:=hide a2;have H1:=hide h1;have HK:=hide h;clear h a1 a2 a3 h1 hcan;go_enter Tryz.func49,Tryz.ntmps49
 go_wp2_with (go_at_call 82; refine hm.mono ?_);rintro e w1 ⟨rfl,hc1,F1,hs1,hk1⟩;have bZ:=hide hc1;have fJ:=hide hs1;have J8:=hide hk1;clear hc1 hs1 hk1 hm;go_wp2;go_loopw [7,8,13] (fun v _ i wr=>∃ k:Nat,k<=n/\i=.int .i64 k/\Hid (ah w1 wr [])/\Hid (wr.ownsRow w1.heap.size 3 1 v k (ints (nJ k s.used)))) (fun _ _ i _=>n - (intOf i).toNat)
 case atStart=>exact⟨0,Nat.zero_le _,rfl,hide (ah.refl _ _),hide (World.ownsRow_nil _ _ _ _)⟩
 case round =>
  obtain⟨k,hk,rfl,HR,HO⟩:=hrel;have q2:n<=2048:=by have:=A1.out; omega
  by_cases hlt:k<n
  . have hw1:wrap64 ((s.used:Int)+(k:Int))=((s.used+k:Nat):Int):=by have:=A1.out; unfold wrap64; omega
    have HW1:=hide hw1;obtain⟨A,c,rfl⟩:=bK HO.out;clear hw1;go_wp2_with (at_builtin; refine wpList_append_own _ rfl _ _ 64 rfl w1.heap.size 3 i0 (.int .i64 0) 1 8 Tryz.underlying64 hi hz0 hz1 hz2 rfl (by decide) _ k _ rfl (HO.out.alloc _) ⟨wr.heap.size,0,none⟩ 1 1 [.int .i64 (wrap64 ((s.used:Int)+(k:Int)))] rfl rfl ?c1 ?c2 ?c3 ?c4 ?c5 ?_)
    case c1 =>
     intro j u hj
     match j,hj with
     | 0,hj=>simp at hj; subst hj; simp [Addr.add]
    case c2=>intro u hu; simp at hu; subst hu; rfl
    case c3=>unfold maxLen; omega
    case c4=>omega
    case c5=>have:=HR.out.size; simp; omega
    intro v' w4 hown' hgrow _;rw [HW1.out] at hown';have HG:Hid (ah w1 w4 []):=hide ((HR.out.alloc _).trans (D':=(Value.slice A k c).ownBlock.toList) (ah.fZ hgrow (fun k hk=>.inl (by simp [hk]))) (fun k hk=>.inr (HO.out.lt k (by simpa using hk)).1));have qc:=hide hown';clear hown' hgrow;go_wp2;go_roundw
    case rel=>exact⟨k+1,by omega,by go_num,HG,hide (by rw [Rn,Q_]; exact qc.out)⟩
    case measure=>simp [intOf]; omega
  . have hk2:k=n:=by omega
    subst hk2;obtain⟨g,cap,rfl,hg1,hg2⟩:=HO.out.form (by have:=H1.out; omega);have HCAP:=hide (amM HO.out (by have:=H1.out; omega));obtain⟨p,hp,hf,hF1⟩:=J8.out;have hpr:=hp.bJ HR.out;have Ro:=hide hpr;have HF:=hide hf;have jR:=hide hF1;have c11:=hpr.blk.cell' (i:=11) rfl;have f11:=hpr.blk.frozen 11;have hlb:=hpr.blk.lt;obtain⟨A,c,hA⟩:=bK hpr.inn;rw [hA] at c11;have HA:=hide hA
    have hnews:∀ j u,(ints (nJ k s.used))[j]?=some u->wr.cell? ((⟨g,0,none⟩:Addr).add j)=some u:=fun j u hj=>by
     rw [add_plain,Nat.zero_add];have:=HO.out.cells (g:=g) rfl j u hj;rwa [add_plain,Nat.zero_add] at this
    have ak0:=hide hnews;have hri:s.ri.length<=2048:=by have:=hp.wf.ri; have e1:s.ri.length<=s.used+k:=this; have:=A1.out; omega
    have DN:g∉p.foot b.a:=fun hm=>by have:=hp.flt g hm; omega
    have HGP:=hide DN;have HG1:=hide hg1;clear hp hf hF1 hpr hA hnews DN;go_wp2_with (at_builtin; refine wpList_append_lies _ rfl _ _ 64 rfl 0 3 i0 (.int .i64 0) 1 8 Tryz.underlying64 hi hz0 hz1 hz2 rfl (by decide) _ s.ri.length _ rfl (by rw [<- HA.out]; exact Ro.out.inn) ⟨g,0,none⟩ k cap (ints (nJ k s.used)) rfl (by rw [LG,EY,Nat.mul_one]) ak0.out (Rl _) (by have:=H1.out; omega) (by unfold maxLen; omega) (by omega) (Nat.zero_le _) _ rfl ?_);intro g2 cap2 w4 hown hgr hg2' hg3;rw [<- HA.out] at hgr hg2';have hc4:ah wr w4 p.iv.ownBlock.toList:=ah.fZ (D:=p.iv.ownBlock.toList) hgr (fun k hk=>.inl (by simp [hk]))
    have hsub:Sub (Value.slice (some ⟨g2,0,none⟩) (s.ri.length+k) cap2).ownBlock.toList p.iv.ownBlock.toList wr:=fun k hk=>by
     have hk:k=g2:=by simpa [Value.ownBlock] using hk
     subst hk;rcases hg2' with h | h
     . exact .inl (Option.mem_toList.2 h)
     . exact .inr (by omega)
    have hx:=Ro.out.awY (l:=(nJ k s.used).reverse++s.ri) hc4 (by rw [List.reverse_append,List.reverse_reverse,J6]; exact hown) hsub (by simp [EY]; omega) (amL (HK.out.choose_spec.1.wf) H1.out A1.out (by have:=A2.out; omega));have g11:=(Ro.out.blk.aj hc4 fun hm=>Ro.out.apart 0 7 b.a (by decide) (by simp [KP.part]) hm).frozen 11;have y11:=(Ro.out.blk.aj hc4 fun hm=>Ro.out.apart 0 7 b.a (by decide) (by simp [KP.part]) hm).cell' (i:=11) rfl;have hl4:=(Ro.out.blk.aj hc4 fun hm=>Ro.out.apart 0 7 b.a (by decide) (by simp [KP.part]) hm).lt;obtain⟨hkb,hcx,hsx⟩:=hx;have hkr:KR (w4.setCell ⟨b.a,11,none⟩ (.slice (some ⟨g2,0,none⟩) (s.ri.length+k) cap2)) b { (s.room k true) with ri:=(nJ k s.used).reverse++s.ri } _:=⟨_,hkb,HF.out,rfl⟩
    have htb:=Df hkr s.used (by have:=HK.out.choose_spec.1.wf.rt; have:=H1.out; show s.rt.length+1<=s.used+k; omega);have HCX:=hide hcx;have HSX:=hide hsx;have hgn:=jP hsx HGP.out hg2;have HGN:=hide hgn;have HSZ:=hide hg2
    have hgx:∀ j u,(ints (nJ k s.used))[j]?=some u->(w4.setCell ⟨b.a,11,none⟩ (.slice (some ⟨g2,0,none⟩) (s.ri.length+k) cap2)).cell? ⟨g,j,none⟩=some u:=fun j u hj=>by
     have:=ak0.out j u hj;rw [add_plain,Nat.zero_add] at this;exact hcx.cell this HGP.out
    have HGX:=hide hgx;clear hown hgr hg2' hg3 hc4 hsub hkb hcx hsx hkr c11 f11 hgn hgx;go_wp2_with (go_at_call 83; refine htb.mono ?_);intro e w5 hq;obtain⟨rfl,hc5,F5,hs5,hk5⟩:=hq;have jD:=hide hc5;have vM:=hide hs5;have AO:=hide hk5;clear hc5 hs5 hk5 htb;go_wp2;go_ret2;have hz1:=bZ.out.size;have hz2:=HR.out.size;have hz3:=HCX.out.size;have hz4:=jD.out.size;have ait:F1=p.foot b.a:=jR.out;have hcA:ah w wr F:=bZ.out.trans HR.out (by simp)
    have hcB:ah w (w4.setCell ⟨b.a,11,none⟩ (.slice (some ⟨g2,0,none⟩) (s.ri.length+k) cap2)) F:=hcA.trans HCX.out (fun k hk=>by
     rcases fJ.out k (ait▸hk) with h | h
     . exact .inl h
     . exact .inr h)
    refine⟨g,cap,rfl,hcB.trans jD.out (fun k hk=>?_),F5,fun k hk=>?_,AO.out,by have:=HG1.out; omega,by have:=HSZ.out; omega,jP vM.out HGN.out (by have:=HSZ.out; omega),fun j u hj=>jD.out.cell (HGX.out j u hj) HGN.out,HCAP.out⟩
    . rcases HSX.out k hk with h | h
      . exact fJ.out k (ait▸h)
      . exact .inr (by omega)
    . rcases vM.out k hk with h | h
      . rcases HSX.out k h with h | h
        . exact fJ.out k (ait▸h)
        . exact .inr (by omega)
      . exact .inr (by omega)
end
end

section
open Go Go.RowKit Go.Deep Go.Maps Ab Xi
attribute [local go_sem] Oper.semAt_some
theorem ab4(w:World):Calls Tryz.prog 80 #[.int .i64 2048] w fun e w'=>e=.returned (.tuple #[.pointer (some ⟨w.heap.size,0,none⟩),.int .i64 0])/\w'=w.alloc (.cells #[.int .i64 2048,.int .i64 0,.slice none 0 0,.bool true] 219):=by
 go_enter Tryz.func80,Tryz.ntmps80
 go_wp2;go_ret2;exact⟨rfl,rfl⟩
theorem afc:uS []=fun _=>none:=by
 funext k;unfold uS;split<;>rfl
theorem afd:oJ []=fun _=>none:=by
 funext k;unfold oJ;split<;>rfl
theorem apJ:Q5.WF:=⟨rfl,by decide,by decide,by decide,by decide,rfl,by decide,by decide,by decide,by decide,by decide,by decide,by decide,by decide,by decide,by decide⟩
theorem ab5(w:World)(hg:oh w):Calls Tryz.prog 48 #[] w fun e w'=>∃ b F,e=.returned (.pointer (some ⟨b.a,0,none⟩))/\ah w w' []/\KR w' b Q5 F/\∀ k∈F,w.heap.size<=k:=by
 have hp:=ab4 w;have hn:=aeC (w.alloc (.cells #[.int .i64 2048,.int .i64 0,.slice none 0 0,.bool true] 219));go_enter Tryz.func48,Tryz.ntmps48
 go_wp2_with (first | (go_at_call 80; refine hp.mono ?_; rintro e w1 ⟨rfl,rfl⟩) | (go_at_call 81; refine hn.mono ?_));rintro e w2 ⟨bb,FB,rfl,hc,hpb,hfb⟩;have hz1:(w.alloc (.cells #[.int .i64 2048,.int .i64 0,.slice none 0 0,.bool true] 219)).heap.size=w.heap.size+1:=size_alloc _ _;have hz2:=hc.size;have hpl:PL w2 w.heap.size (.slice none 0 0) 0 []:=⟨(aC.new w 219 [.int .i64 2048,.int .i64 0,.slice none 0 0,.bool true]).aj hc (by simp),World.ownsRow_nil _ _ _ _⟩
 have HC:=hide hc;have HPB:=hide hpb;have HFB:=hide hfb;have HPL:=hide hpl;clear hc hpb hfb hpl hp hn;have hmm:=@run_makeMap Tryz.prog;go_wp2;go_ret;clear hmm;generalize hz:w2.heap.size=z at *;have Vr:=HPB.out.lt;have e1:(w2.alloc (.map #[] 0)).heap.size=z+1:=by rw [size_alloc,hz]
 have e2:((w2.alloc (.map #[] 0)).alloc (.map #[] 0)).heap.size=z+1+1:=by rw [size_alloc,e1]
 have e3:(((w2.alloc (.map #[] 0)).alloc (.map #[] 0)).alloc (.map #[] 0)).heap.size=z+1+1+1:=by rw [size_alloc,e2]
 have m1:=(((kY.made w2 3 21).alloc (.map #[] 0)).alloc (.map #[] 0)).alloc (.cells #[.pointer (some ⟨bb,0,none⟩),.pointer (some ⟨w.heap.size,0,none⟩),.map (some z),.map (some (z+1)),.map (some (z+1+1)),.slice none 0 0,.int .i64 0,.int .i64 0,.slice none 0 0,.slice none 0 0,.slice none 0 0,.slice none 0 0,.slice none 0 0] 160);have m2:=((kY.made (w2.alloc (.map #[] 0)) 3 4).alloc (.map #[] 0)).alloc (.cells #[.pointer (some ⟨bb,0,none⟩),.pointer (some ⟨w.heap.size,0,none⟩),.map (some z),.map (some (z+1)),.map (some (z+1+1)),.slice none 0 0,.int .i64 0,.int .i64 0,.slice none 0 0,.slice none 0 0,.slice none 0 0,.slice none 0 0,.slice none 0 0] 160);have m3:=(kY.made ((w2.alloc (.map #[] 0)).alloc (.map #[] 0)) 21 3).alloc (.cells #[.pointer (some ⟨bb,0,none⟩),.pointer (some ⟨w.heap.size,0,none⟩),.map (some z),.map (some (z+1)),.map (some (z+1+1)),.slice none 0 0,.int .i64 0,.int .i64 0,.slice none 0 0,.slice none 0 0,.slice none 0 0,.slice none 0 0,.slice none 0 0] 160);rw [hz] at m1;rw [e1] at m2;rw [e2] at m3;have bm:=aC.new (((w2.alloc (.map #[] 0)).alloc (.map #[] 0)).alloc (.map #[] 0)) 160 [.pointer (some ⟨bb,0,none⟩),.pointer (some ⟨w.heap.size,0,none⟩),.map (some z),.map (some (z+1)),.map (some (z+1+1)),.slice none 0 0,.int .i64 0,.int .i64 0,.slice none 0 0,.slice none 0 0,.slice none 0 0,.slice none 0 0,.slice none 0 0];rw [e3] at bm;have hcA:ah w2 ((((w2.alloc (.map #[] 0)).alloc (.map #[] 0)).alloc (.map #[] 0)).alloc (.cells #[.pointer (some ⟨bb,0,none⟩),.pointer (some ⟨w.heap.size,0,none⟩),.map (some z),.map (some (z+1)),.map (some (z+1+1)),.slice none 0 0,.int .i64 0,.int .i64 0,.slice none 0 0,.slice none 0 0,.slice none 0 0,.slice none 0 0,.slice none 0 0] 160)) []:=((((ah.refl w2 []).alloc _).alloc _).alloc _).alloc _;have hcW:=(((ah.refl w []).alloc (.cells #[.int .i64 2048,.int .i64 0,.slice none 0 0,.bool true] 219)).trans HC.out (by simp)).trans hcA (by simp);generalize ((((w2.alloc (.map #[] 0)).alloc (.map #[] 0)).alloc (.map #[] 0)).alloc (.cells #[.pointer (some ⟨bb,0,none⟩),.pointer (some ⟨w.heap.size,0,none⟩),.map (some z),.map (some (z+1)),.map (some (z+1+1)),.slice none 0 0,.int .i64 0,.int .i64 0,.slice none 0 0,.slice none 0 0,.slice none 0 0,.slice none 0 0,.slice none 0 0] 160))=w3 at *;have hfl:∀ k∈FB,w.heap.size+1<=k:=fun k hk=>by have:=HFB.out k hk; rw [hz1] at this; exact this
 have aw0:∀ k∈FB,k<z:=fun k hk=>by have:=Vr k hk; omega
 have hgz:=hg.size
 let p:KP:=⟨bb,w.heap.size,z,z+1,z+1+1,.slice none 0 0,.slice none 0 0,.slice none 0 0,.slice none 0 0,FB,0,0,0,fun _=>none⟩
 have hpart:∀ i,∀ k∈p.part (z+1+1+1) i,(i=0/\k=z+1+1+1)\/(i=1/\w.heap.size+1<=k/\k<z)\/(i=2/\k=w.heap.size)\/(i=3/\k=z)\/(i=4/\k=z+1)\/(i=5/\k=z+1+1):=by
  intro i k hk;rcases i with _ | _ | _ | _ | _ | _ | _ | _ | _ | _ | i
  . simp [KP.part] at hk; omega
  . have h1:=hfl k hk; have h2:=aw0 k hk; omega
  . simp [KP.part,p] at hk; omega
  . simp [KP.part,p] at hk; omega
  . simp [KP.part,p] at hk; omega
  . simp [KP.part,p] at hk; omega
  all_goals simp [KP.part,p,Value.ownBlock] at hk
 have hap:p.Apart (z+1+1+1):=by
  intro i j k hij hi hj;have h1:=hpart i k hi;have h2:=hpart j k hj;omega
 have hhi:∀ i,∀ k∈p.part (z+1+1+1) i,w.heap.size<=k:=fun i k hk=>by
  have h1:=hpart i k hk;omega
 refine⟨⟨z+1+1+1,bb⟩,p.foot (z+1+1+1),rfl,hcW,⟨p,?_,fun a ha=>absurd ha (Nat.not_lt_zero _),rfl⟩,fun k hk=>?_⟩
 . exact {
    o8:=rfl
    blk:=bm
    nK:=HPB.out.aj hcA (by simp)
    plan:=HPL.out.aj hcA (by simp) (by simp)
    data:=by rw [show Q5.data=[] from rfl,afc]; exact m1
    sec:=m2
    cons:=by rw [show Q5.cons=[] from rfl,afd]; exact m3
    tabs:=World.ownsRow_nil _ _ _ _
    inn:=World.ownsRow_nil _ _ _ _
    out:=World.ownsRow_nil _ _ _ _
    wf:=apJ
    nd:=Nat.le_refl _
    ns:=Nat.le_refl _
    l7:=Nat.le_refl _
    apart:=hap
    jF:=hg.aj hcW (by simp)
    high:=fun i k hk=>Nat.le_trans hgz (hhi i k hk) }
 . obtain⟨i,hi⟩:=KP.Jf hk
   exact hhi i k hi
theorem VO{w:World}{v:Value}{xs:List Value}(h:Sl w v xs):∃ A c,v=.slice A xs.length c/\∀(j:Nat) (u:Value),xs[j]?=some u->∃ b off,A=some ⟨b,off,none⟩/\w.cell? ⟨b,off+j,none⟩=some u/\b<w.heap.size:=by
 obtain⟨A,c,rfl,_⟩:=id h;exact⟨A,c,rfl,fun j u hj=>h.at_ hj⟩
theorem Ru(x:Int):∀(l:List Int) (a:Nat) (d:List (Nat×Int)),qQ (l++[x]) a d=(a+l.length,x)::qQ l a d
 | [],a,d=>rfl
 | y::l,a,d=>by
  show qQ (l++[x]) (a+1) ((a,y)::d)=_;rw [Ru x l];show(a+1+l.length,x)::_=(a+(l.length+1),x)::_;rw [show a+1+l.length=a+(l.length+1) by omega];rfl
theorem LJ:∀(l:List Int) (a:Nat) (d:List (Nat×Int)),(qQ l a d).length=d.length+l.length
 | [],a,d=>rfl
 | y::l,a,d=>by
  show(qQ l (a+1) ((a,y)::d)).length=_;rw [LJ l];show d.length+1+l.length=d.length+(l.length+1);omega
theorem amQ{s:KS}(h:s.WF){l:List Int}{n:Nat}(h1:1<=n)(hl:l.length<=n)(hu:s.used+n<=2048)(hn:s.names+1<=100000):({ (s.room n false) with data:=qQ l s.used s.data }:KS).WF :=
 { (show(s.room n false).WF from(DT (sec:=false) h hn h1 hu).rs _) with
   data:=by
    show(qQ l s.used s.data).length<=s.used+n;rw [LJ];have:=h.data
    omega }
theorem amR{r a:Nat}(hr:r<=31)(ha:a<=2048):chk 34 (r:Int) 1 0 (a:Int)=0:=by
 rw [lS];unfold Fits jy;simp;omega
section
variable {w:World} {b:MP} {s:KS} {F:List Nat}
theorem VP(h:KR w b s F){lv:Value}{l:List Int}(hl:Sl w lv (bG l))(hn:∀ A n c,lv=.slice (some A) n c->A.block∉F)(h32:∀ x∈l,aB x)(h1:1<=l.length)(hcan:s.can l.length=true) :
 Calls Tryz.prog 387 #[.pointer (some ⟨b.a,0,none⟩),lv] w (iW (.int .i64 (s.nt:Int)) (s.table l) b F w):=by
 obtain⟨a1,a2,a3⟩:=lU hcan;have hm:=oL h l.length false h1 a1 (by omega);obtain⟨A,c,rfl,hx⟩:=VO hl;have e0:(bG l).length=l.length:=by simp [bG]
 rw [e0];have HX:=hide hx;have HN:=hide hn;have H32:=hide h32;have H1:=hide h1;have A1:=hide a1;have A2:=hide a2;have HW:=hide (show s.WF from h.choose_spec.1.wf);have hl2:l.length<=2048:=by omega
 have hu2:s.used<=2048:=by omega
 have qM:=hide (show ∀ k∈F,k<w.heap.size from fun k hk=>h.lt k hk);clear h hl hx hn h32 h1 a1 a2 a3 hcan;go_enter Tryz.func387,Tryz.ntmps387
 go_wp2_with (go_at_call 82; refine hm.mono ?_);rintro e w1 ⟨rfl,hc1,F1,hs1,p1,hp1,hf1,rfl⟩;have bZ:=hide hc1;have fJ:=hide hs1;have dL:=hide hp1;have jR:=hide hf1;clear hc1 hs1 hp1 hf1 hm;go_wp2_with fail
 go_loopw [6,7,14] (fun _ _ i wr=>∃(k n:Nat),k<=l.length/\i=.int .i64 k/\Hid (KB wr b { p1 with nd:=n } { (s.room l.length false) with data:=qQ (l.take k) s.used s.data })/\Hid (ah w1 wr [p1.md])) (fun _ _ i _=>l.length - (intOf i).toNat)
 case atStart=>exact⟨0,p1.nd,Nat.zero_le _,rfl,hide dL.out,hide (ah.refl _ _)⟩
 case round =>
  obtain⟨k,n,hk,rfl,HK,HR⟩:=hrel;by_cases hlt:k<l.length
  . obtain⟨x,hkx⟩:∃ x,l[k]?=some x:=⟨l[k],by simp [hlt]⟩
    obtain⟨g,o,rfl,hcx,hbx⟩:=HX.out k _ (show(bG l)[k]?=some (.int .i32 x) by simp [bG,hkx]);have hgF:g∉F:=HN.out _ _ _ rfl
    have hcy:=HR.out.cell (bZ.out.cell hcx hgF) (by
     show g∉[p1.md];intro hm;have hm:g=p1.md:=by simpa using hm
     rcases fJ.out g (KP.bg (i:=3) (by simp [KP.part,hm])) with h | h
     . exact hgF h
     . omega)
    have hx32:aB x:=H32.out x (List.mem_of_getElem? hkx);have Ri:=wF (k:=(s.used:Int)+(k:Int)) (by omega) (by omega);have d2:=HK.out.blk.cell' (i:=2) rfl
    have HPD:=hide (show qQ (l.take (k+1)) s.used s.data=(s.used+k,x)::qQ (l.take k) s.used s.data by
     rw [List.take_add_one,hkx];show qQ (l.take k++[x]) _ _=_
     rw [Ru,List.length_take,Nat.min_eq_left hk])
    have aw6:=hide hx32;have HKL:=hide (show n<=(qQ (l.take k) s.used s.data).length from HK.out.nd)
    have HML:=hide (show n+1<=maxLen by
     have q1:=HKL.out;rw [LJ] at q1;have q2:=HW.out.data;have q3:=HW.out.used;have q4:(l.take k).length<=l.length:=by simp; omega
     unfold maxLen
     omega)
    clear hkx hx32 hgF hcx;go_wp2_with (at_mapUpdate; refine qO rfl _ _ 156 3 21 kN p1.md n (uS (qQ (l.take k) s.used s.data)) _ rfl Tryz.underlying156 rfl HK.out.data HML.out _ (.int .i64 ((s.used:Int)+(k:Int))) rfl Ri trivial (.int .i32 x) (.int .i32 x) rfl (plainElem_int Tryz.underlying21 (wf32 aw6.out)) ?_);intro w2 hm2 hc2;rw [show((s.used:Int)+(k:Int))=((s.used+k:Nat):Int) from rfl,EW,<- HPD.out] at hm2;have jY:=hide (HK.out.abE hc2 hm2 (by rw [HPD.out]; exact Nat.succ_le_succ HKL.out) (amQ (l:=l.take (k+1)) HW.out H1.out (by simp; omega) A1.out (by have:=A2.out; omega)));have HR2:=hide (HR.out.trans hc2 (fun k hk=>.inl hk));clear hm2 hc2 d2 Ri;go_wp2;go_roundw
    case rel=>exact⟨k+1,n+1,by omega,by go_num,jY,HR2⟩
    case measure=>simp [intOf]; omega
  . have hk2:k=l.length:=by omega
    subst hk2;rw [List.take_length] at HK;have hkr:KR wr b { (s.room l.length false) with data:=qQ l s.used s.data } (p1.foot b.a):=⟨{ p1 with nd:=n },HK.out,jR.out,rfl⟩
    have htb:=Df hkr s.used (by have:=HW.out.rt; have:=H1.out; show s.rt.length+1<=s.used+l.length; omega);have HCR:=hide (bZ.out.trans (D':=p1.foot b.a) (HR.out.more (fun k hk=>.inl (KP.bg (i:=3) hk))) (fun k hk=>fJ.out k hk));clear hkr;go_wp2_with (go_at_call 83; refine htb.mono ?_);intro e w5 hq;obtain⟨rfl,hc5,F5,hs5,hk5⟩:=iW.trans HCR.out fJ.out hq;have jD:=hide hc5;have vM:=hide hs5;have AO:=hide hk5;clear hc5 hs5 hk5 htb hq;go_wp2;go_ret;exact⟨rfl,jD.out,F5,vM.out,AO.out⟩
theorem afm(h:KR w b s F)(t i a:Nat)(ht:s.rt.reverse[t]?=some a)(ha:a<=2048)(hi:i<=2048)(hcan:s.can 1=true) :
 Calls Tryz.prog 382 #[.pointer (some ⟨b.a,0,none⟩),.int .i64 (t:Int),.int .i64 (i:Int)] w (iW (.int .i64 (s.used:Int)) (s.at_ t i) b F w):=by
 obtain⟨a1,a2,a3⟩:=lU hcan;have hm:=KR.load h 1 i (by decide) hi (by omega)
 have hat:s.at_ t i=((s.load 1 i).ins ⟨34,2,1,0,(a:Nat)⟩).kept 2 true:=by
  unfold KS.at_;rw [List.getD_eq_getElem?_getD,ht];rfl
 rw [hat];have A1:=hide a1;have A2:=hide a2;have A3:=hide a3;have HT:=hide ht
 have htl:t<s.nt:=by
  have:=(List.getElem?_eq_some_iff.1 ht).1;rw [List.length_reverse] at this;have:=h.choose_spec.1.wf.nt;omega
 clear h hcan a1 a2 a3 hat ht;go_enter Tryz.func382,Tryz.ntmps382
 go_wp2_with (go_at_call 103; refine hm.mono ?_);rintro e w1 ⟨rfl,hc1,F1,hs1,p,hp,hf,rfl⟩;have c0:=hp.blk.cell' (i:=0) rfl;have c5:=hp.blk.cell' (i:=5) rfl;have hins:=(hp.bJ ((ah.refl w1 []).drew)).ins ⟨34,2,1,0,a⟩ (amR (by decide) ha) (by have:=A3.out; show s.nc+1<=_; omega);unfold bD at hins;obtain⟨A,c,hA,hx⟩:=oH (show w1.ownsRow 0 3 1 p.tv s.nt (ints s.rt.reverse) from hp.tabs);obtain⟨g,rfl,hgl,hgb,hcells⟩:=hx (by omega);rw [hA] at c5;have ct:=hcells t (.int .i64 (a:Int)) (by unfold ints; rw [List.getElem?_map,HT.out]; rfl);have bZ:=hide hc1;have fJ:=hide hs1;have HF:=hide hf;clear hc1 hs1 hp hf hm hA hx hcells hgb hgl;go_wp2_with fail
 go_still_tail 12,(by kernel_rfl)
 go_wp2_with fail
 refine hins.mono ?_;rintro e w2 ⟨rfl,hc2,p2,hp2,hf2,hs2⟩;have hk2:KR w2 b ((s.load 1 i).ins ⟨34,2,1,0,(a:Nat)⟩) (p2.foot b.a):=⟨p2,hp2,hf2▸HF.out,rfl⟩
 have hkp:=zq hk2 2 true (by decide) (by have:=A1.out; exact this) (by have:=A2.out; show s.names+1<=_; omega) (by have:=A3.out; show s.nc+2<=_; omega);have HC2:=hide (bZ.out.trans hc2.adY (fun k hk=>fJ.out k hk));have HS2:=hide (Sub.trans fJ.out hs2 bZ.out.size);clear hc2 hp2 hf2 hs2 hk2 hins c0 c5 ct;go_wp2_with (go_at_call 142; refine hkp.mono ?_);intro e w3 hq;obtain⟨rfl,hc3,F3,hs3,hk3⟩:=iW.trans HC2.out HS2.out hq;have jC:=hide hc3;have U6:=hide hs3;have Gp:=hide hk3;clear hq hc3 hs3 hk3 hkp;go_wp2;go_ret;exact⟨rfl,jC.out,F3,U6.out,Gp.out⟩
end
end

section
open Go Go.RowKit Go.Deep Go.Maps Ab Xi
attribute [local go_sem] Oper.semAt_some
theorem NR(v:Nat):∀(l:List Nat) (a:Nat) (s:KS),rM (l++[v]) a s=(rM l a s).set (a+l.length) v
 | [],a,s=>rfl
 | y::l,a,s=>by
  show rM (l++[v]) (a+1) (s.set a y)=(rM l (a+1) (s.set a y)).set (a+(l.length+1)) v;rw [NR v l,show a+1+l.length=a+(l.length+1) by omega]
section
variable {w:World} {b:MP} {s:KS} {F:List Nat}
theorem YS(h:KR w b s F){lv:Value}{l:List Nat}(hl:Sl w lv (ints l))(hn:∀ A n c,lv=.slice (some A) n c->A.block∉F)(hv:∀ v∈l,v<=2048)(h1:1<=l.length)(hcan:s.can l.length=true)(hnc:s.nc+2*l.length<=799980) :
 Calls Tryz.prog 385 #[.pointer (some ⟨b.a,0,none⟩),lv] w (iW (.int .i64 (s.nt:Int)) (s.fill l) b F w):=by
 obtain⟨a1,a2,a3⟩:=lU hcan;have hm:=oL h l.length true h1 a1 (by omega);obtain⟨A,c,rfl,hx⟩:=VO hl;rw [LG];have HX:=hide hx;have HN:=hide hn;have HV:=hide hv;have H1:=hide h1;have A1:=hide a1;have A2:=hide a2;have HNC:=hide hnc;have HW:=hide (show s.WF from h.choose_spec.1.wf);have hl2:l.length<=2048:=by omega
 have hu2:s.used<=2048:=by omega
 clear h hl hx hn hv h1 a1 a2 a3 hcan hnc;go_enter Tryz.func385,Tryz.ntmps385
 go_wp2_with (go_at_call 82; refine hm.mono ?_);rintro e w1 ⟨rfl,hc1,F1,hs1,hk1⟩;have bZ:=hide hc1;have fJ:=hide hs1;have J8:=hide hk1;clear hc1 hs1 hk1 hm;go_wp2_with fail
 go_loopw [6,7,14] (fun _ _ i wr=>∃(k:Nat) (Fk:List Nat),k<=l.length/\i=.int .i64 k/\Hid (KR wr b (rM (l.take k) s.used (s.room l.length true)) Fk)/\Hid (ah w wr F)/\Hid (Sub Fk F w)) (fun _ _ i _=>l.length - (intOf i).toNat)
 case atStart=>exact⟨0,F1,Nat.zero_le _,rfl,J8,bZ,fJ⟩
 case round =>
  obtain⟨k,Fk,hk,rfl,HK,HC,HS⟩:=hrel;by_cases hlt:k<l.length
  . obtain⟨x,hkx⟩:∃ x,l[k]?=some x:=⟨l[k],by simp [hlt]⟩
    obtain⟨g,o,rfl,hcx,hbx⟩:=HX.out k _ (show(ints l)[k]?=some (.int .i64 (x:Int)) by simp [ints,hkx]);have hgF:g∉F:=HN.out _ _ _ rfl;have hcy:=HC.out.cell hcx hgF;have hx2:x<=2048:=HV.out x (List.mem_of_getElem? hkx)
    have hst:=ES HK.out (s.used+k) x (by have:=A1.out; omega) hx2 (by
     rw [AP];show s.nc+2*(l.take k).length<=799990;have:(l.take k).length<=l.length:=by simp; omega
     have:=HNC.out
     omega)
    have hfs:(rM (l.take k) s.used (s.room l.length true)).set (s.used+k) x=rM (l.take (k+1)) s.used (s.room l.length true):=by
     rw [List.take_add_one,hkx];show _=rM (l.take k++[x]) _ _;rw [NR,List.length_take,Nat.min_eq_left hk]
    rw [hfs] at hst;have hw1:wrap64 ((s.used:Int)+(k:Int))=((s.used+k:Nat):Int):=by unfold wrap64; omega
    clear hkx hgF hcx hfs;go_wp2_with (go_at_call 57; refine hst.mono ?_);intro e w2 hq;obtain⟨rfl,hc2,F2,hs2,hk2⟩:=iW.trans HC.out HS.out hq;have HC2:=hide hc2;have HS2:=hide hs2;have jY:=hide hk2;clear hq hc2 hs2 hk2 hst hw1;go_wp2;go_roundw
    case rel=>exact⟨k+1,F2,by omega,by go_num,jY,HC2,HS2⟩
    case measure=>simp [intOf]; omega
  . have hk2:k=l.length:=by omega
    subst hk2;rw [List.take_length] at HK
    have htb:=Df HK.out s.used (by
     rw [AP];have:=HW.out.rt;have:=H1.out;show s.rt.length+1<=s.used+l.length
     omega)
    rw [show(rM l s.used (s.room l.length true)).nt=s.nt by rw [AP]; rfl] at htb;go_wp2_with (go_at_call 83; refine htb.mono ?_);intro e w5 hq;obtain⟨rfl,hc5,F5,hs5,hk5⟩:=iW.trans HC.out HS.out hq;have jD:=hide hc5;have vM:=hide hs5;have AO:=hide hk5;clear hc5 hs5 hk5 htb hq;go_wp2;go_ret;exact⟨rfl,jD.out,F5,vM.out,AO.out⟩
end
end

section
open Go Go.RowKit Go.Deep Go.Maps Ab Xi
attribute [local go_sem] Oper.semAt_some
theorem ane{s:KS}(h:s.WF){n:Int}(hu:s.used+1<=2048)(hn:s.names+1<=100000):({ (s.room 1 true) with data:=(s.used,n)::s.data }:KS).WF :=
 { (show(s.room 1 true).WF from(DT (sec:=true) h hn (Nat.le_refl 1) hu).rs _) with data:=Nat.succ_le_succ h.data }
section
variable {w:World} {b:MP} {s:KS} {F:List Nat}
theorem xw(h:KR w b s F)(n:Int)(hn:aB n)(hcan:s.can 1=true) :
 Calls Tryz.prog 84 #[.pointer (some ⟨b.a,0,none⟩),.int .i32 n] w (iW (.int .i64 (s.used:Int)) (s.stays n) b F w):=by
 obtain⟨a1,a2,a3⟩:=lU hcan;have hm:=oL h 1 true (Nat.le_refl _) a1 (by omega);have A1:=hide a1;have A2:=hide a2;have HW:=hide (show s.WF from h.choose_spec.1.wf);have HN:=hide hn;clear h hcan a1 a2 a3 hn;go_enter Tryz.func84,Tryz.ntmps84
 go_wp2_with (go_at_call 82; refine hm.mono ?_);rintro e w1 ⟨rfl,hc1,F1,hs1,p1,hp1,hf1,rfl⟩;have bZ:=hide hc1;have fJ:=hide hs1;have dL:=hide hp1;have jR:=hide hf1;have d2:=hp1.blk.cell' (i:=2) rfl;have Ri:=wF (k:=(s.used:Int)) (by omega) (by have:=A1.out; omega);clear hc1 hs1 hp1 hf1 hm;go_wp2_with (at_mapUpdate; refine qO rfl _ _ 156 3 21 kN p1.md p1.nd (uS s.data) _ rfl Tryz.underlying156 rfl dL.out.data (by have q1:=dL.out.nd; have q2:=dL.out.wf.data; have q3:=dL.out.wf.used; unfold maxLen; omega) _ (.int .i64 (s.used:Int)) rfl Ri trivial (.int .i32 n) (.int .i32 n) rfl (plainElem_int Tryz.underlying21 (wf32 HN.out)) ?_);intro w2 hm2 hc2;rw [EW] at hm2;have HP2:=hide (dL.out.abE hc2 hm2 (Nat.succ_le_succ dL.out.nd) (ane HW.out A1.out (by have:=A2.out; omega)));have HC2:=hide hc2;clear hm2 hc2 d2 Ri;go_wp2;go_ret;have hA:ah w1 w2 (p1.foot b):=HC2.out.more (fun k hk=>.inl (KP.bg (i:=3) hk));exact⟨rfl,bZ.out.trans hA (fun k hk=>fJ.out k hk),_,fJ.out,_,HP2.out,jR.out,rfl⟩
