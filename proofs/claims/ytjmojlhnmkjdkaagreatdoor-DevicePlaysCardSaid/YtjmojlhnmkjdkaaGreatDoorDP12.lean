/- Texts of this claim, side by side. -/
import Derived.Test.YtjmojlhnmkjdkaaGreatDoorImgFAD
import Derived.Test.YtjmojlhnmkjdkaaGreatDoorImgFBD
import Derived.Test.YtjmojlhnmkjdkaaGreatDoorImgFDD
import Derived.Test.YtjmojlhnmkjdkaaGreatDoorImgFED
import Derived.Test.YtjmojlhnmkjdkaaGreatDoorImgFCD
import Derived.Test.YtjmojlhnmkjdkaaGreatDoorCoreTD
set_option linter.unusedVariables false
set_option maxRecDepth 100000
set_option maxHeartbeats 8000000
namespace Go.Proofs.YtjmojlhnmkjdkaaGreatDoor
section
open Go Go.RowKit Ab Xi
set_option maxRecDepth 100000
def zD (b:MP):KS:=stC
theorem JA{r:Option (AV×G×List Xi.Ev)}{ρ ρ':List Nat}{ps ps':List Addr}{s s':KS}{t:Bool}{os:List KE}(h:acF r ρ ps s=some (t,os,ρ',ps',s')):∃ v g δ xs,r=some (v,g,δ)/\xq g v=some (t,xs)/\Fe ρ xs=some os/\ρ=ρ'/\ps=ps'/\s=s':=by
 unfold acF at h
 cases r with
 | none=>cases h
 | some q =>
  obtain⟨v,g,δ⟩:=q;simp only [] at h
  cases he:xq g v with
  | none=>rw [he] at h; cases h
  | some q3 =>
   obtain⟨t',xs⟩:=q3;rw [he] at h;simp only [] at h
   cases hx:Fe ρ xs with
   | none=>rw [hx] at h; cases h
   | some os' =>
    rw [hx] at h;have e:=Option.some.inj h;have e1:=congrArg Prod.fst e;have e2:=congrArg (fun q=>q.2.1) e;have e3:=congrArg (fun q=>q.2.2.1) e;have e4:=congrArg (fun q=>q.2.2.2.1) e;have e5:=congrArg (fun q=>q.2.2.2.2) e;exact⟨v,g,δ,xs,rfl,by rw [he]; exact congrArg some (Prod.ext e1 rfl),by rw [hx]; exact congrArg some e2,e3,e4,e5⟩
theorem aqB:Qc=acD++Qc.drop 93:=by decide +kernel
theorem aqC:rhoC=Qc++rhoC.drop 99:=by decide +kernel
theorem aiX:rhoC=[0,1,2,3,4,5,6,7,8,9,10,11,12,13,14,15,16,17,18,19,27,28,29,30,31,32,33]++rhoC.drop 27:=by decide +kernel
theorem am5:Fq=Ol++Fq.drop 176:=by decide +kernel
theorem am6:Cb=Fq++Cb.drop 340:=by decide +kernel
theorem aiY:Cb=[27,28,29,30,63,66,69,72,75,78,81,84,87]++Cb.drop 13:=by decide +kernel
theorem aiZ (b:MP) (H:Nat->Option Obj) (X:List Nat) (ρF:Nat->Value) (h:lM Cb ρF):gX (qR b H X) ρF (dF (rS b)) stA stB:=by
 have hB:lM Fq ρF:=by rw [am6] at h; exact h.of_append
 have hA:lM Ol ρF:=by
  have h':=hB;rw [am5] at h';exact h'.of_append
 have e:dF (rS b)=(dF (rS b)).take 141++(((dF (rS b)).drop 141).take 153++((dF (rS b)).drop 141).drop 153):=by rw [List.take_append_drop,List.take_append_drop]
 rw [e];refine(mM (M:=qR b H X)).2 ⟨acB,?_,?_⟩
 . obtain⟨ρ',ps',s',h1,_,_,h4⟩:=nO (b:=b) (G:=H) (X:=X) 5000 (atZ b)
   have q:=Option.some.inj h1;have q1:ρ'=Ol:=congrArg Prod.fst q;have q2:ps'=List.replicate 165 ⟨b.a,0,none⟩:=congrArg (fun q=>q.2.1) q;have q3:s'=acB:=congrArg (fun q=>q.2.2) q;subst q1 q2 q3;exact h4 ρF (fun p hp=>(List.mem_replicate.1 hp).2) hA
 refine(mM (M:=qR b H X)).2 ⟨acC,?_,?_⟩
 . obtain⟨ρ',ps',s',h1,_,_,h4⟩:=nO (b:=b) (G:=H) (X:=X) 5000 (at1 b)
   have q:=Option.some.inj h1;have q1:ρ'=Fq:=congrArg Prod.fst q;have q2:ps'=List.replicate 165 ⟨b.a,0,none⟩:=congrArg (fun q=>q.2.1) q;have q3:s'=acC:=congrArg (fun q=>q.2.2) q;subst q1 q2 q3;exact h4 ρF (fun p hp=>(List.mem_replicate.1 hp).2) hB
 . obtain⟨ρ',ps',s',h1,_,_,h4⟩:=nO (b:=b) (G:=H) (X:=X) 5000 (ali b)
   obtain⟨_,_,_,_,_,_,_,q1,q2,q3⟩:=JA h1;subst q1 q2 q3;exact h4 ρF (fun p hp=>(List.mem_replicate.1 hp).2) h
theorem acG {b:MP} (w:World) {F:List Nat} (hk:KR w b stA F) (ss:List Value)
 (hss:∀(i:Nat) cs,([]:List (List AV))[i]?=some cs->∃ v,ss[i]?=some v/\Sl w v (ay (dV (([27,28,29,30,63,66,69,72,75,78,81,84,87]:List Nat).map iZ)) cs)) (hsF:∀ v∈ss,∀ k,dU v=some k->k∉F) (h1:∀ v∈ss,v.oneCell'=true) {vals:List Value} (hvs:ay (E0 (ρS (([27,28,29,30,63,66,69,72,75,78,81,84,87]:List Nat).map iZ) ss)) (acE b)=vals) :
 Calls Tryz.prog 92 vals.toArray w fun e w'=>∃ us F',e=.returned (LQ true us)/\ah w w' F/\Sub F' F w/\KR w' b stB F'/\b_ F' w' us ([KE.arr [493,495,497,499],KE.num 98,KE.num 109].map KE.ca):=by
 obtain⟨ρ',ps',s',hend,_,_,_⟩:=nO (b:=b) (G:=fun _=>none) (X:=[]) 5000 (ali b);obtain⟨v,g,δ,xs,hr,he,hx,q1,_,_⟩:=JA hend;subst q1;have hd:dF (rS b)=δ:=by rw [hr]; rfl
 have hr':iK (acn []) 5000 92 (acE b) ⟨.nil,0,aF [27,28,29,30,63,66,69,72,75,78,81,84,87]⟩=some (v,g,δ):=hr;refine Gt (cx:=acn []) (s':=stB) rfl (show Tryz.prog.follows .mixedOrders=true by kernel_rfl) (fun t n g h a w=>afq t n g h a w) rfl hr' (by kernel_rfl) aiY (by decide +kernel) he hx (fun H X ρF hF=>?_) w hk ss hss hsF h1 hvs;rw [<- hd];exact aiZ b H X ρF hF
theorem afS (b:MP) (H:Nat->Option Obj) (X:List Nat) (ρF:Nat->Value) (h:lM Qc ρF):aox (qR b H X) ρF (.call 92 [.v (NT b),.v (.agg [.opq 20,.opq 21,.opq 22,.opq 23]),.v (.agg [.opq 60,.opq 64,.opq 68]),.v (.agg [.opq 72,.opq 76,.opq 80]),.v (.agg [.opq 84,.opq 88,.opq 92])] (.jm [.agg (bQ 4 93),.opq 97,.opq 98])) stA stB:=by
 have e20:ρF 20=.int .i64 (27:Nat):=h 20 27 rfl;have e21:ρF 21=.int .i64 (28:Nat):=h 21 28 rfl;have e22:ρF 22=.int .i64 (29:Nat):=h 22 29 rfl;have e23:ρF 23=.int .i64 (30:Nat):=h 23 30 rfl;have e60:ρF 60=.int .i64 (63:Nat):=h 60 63 rfl;have e64:ρF 64=.int .i64 (66:Nat):=h 64 66 rfl;have e68:ρF 68=.int .i64 (69:Nat):=h 68 69 rfl;have e72:ρF 72=.int .i64 (72:Nat):=h 72 72 rfl;have e76:ρF 76=.int .i64 (75:Nat):=h 76 75 rfl;have e80:ρF 80=.int .i64 (78:Nat):=h 80 78 rfl;have e84:ρF 84=.int .i64 (81:Nat):=h 84 81 rfl;have e88:ρF 88=.int .i64 (84:Nat):=h 88 84 rfl;have e92:ρF 92=.int .i64 (87:Nat):=h 92 87 rfl;have e93:ρF 93=.int .i64 (493:Nat):=h 93 493 rfl;have e94:ρF 94=.int .i64 (495:Nat):=h 94 495 rfl;have e95:ρF 95=.int .i64 (497:Nat):=h 95 497 rfl;have e96:ρF 96=.int .i64 (499:Nat):=h 96 499 rfl;have e97:ρF 97=.int .i64 (98:Nat):=h 97 98 rfl;have e98:ρF 98=.int .i64 (109:Nat):=h 98 109 rfl
 have cq:AV.aA (E0 ρF) (.agg [.opq 20,.opq 21,.opq 22,.opq 23])=.agg #[.int .i64 27,.int .i64 28,.int .i64 29,.int .i64 30]:=by
  show Value.agg #[ρF 20,ρF 21,ρF 22,ρF 23]=_;rw [e20,e21,e22,e23];rfl
 have ct:AV.aA (E0 ρF) (.agg [.opq 60,.opq 64,.opq 68])=.agg #[.int .i64 63,.int .i64 66,.int .i64 69]:=by
  show Value.agg #[ρF 60,ρF 64,ρF 68]=_;rw [e60,e64,e68];rfl
 have cp:AV.aA (E0 ρF) (.agg [.opq 72,.opq 76,.opq 80])=.agg #[.int .i64 72,.int .i64 75,.int .i64 78]:=by
  show Value.agg #[ρF 72,ρF 76,ρF 80]=_;rw [e72,e76,e80];rfl
 have cf:AV.aA (E0 ρF) (.agg [.opq 84,.opq 88,.opq 92])=.agg #[.int .i64 81,.int .i64 84,.int .i64 87]:=by
  show Value.agg #[ρF 84,ρF 88,ρF 92]=_;rw [e84,e88,e92];rfl
 have co:AV.aA (E0 ρF) (.jm [.agg (bQ 4 93),.opq 97,.opq 98])=.tuple #[.agg #[.int .i64 493,.int .i64 495,.int .i64 497,.int .i64 499],.int .i64 98,.int .i64 109]:=by
  show Value.tuple #[Value.agg #[ρF 93,ρF 94,ρF 95,ρF 96],ρF 97,ρF 98]=_;rw [e93,e94,e95,e96,e97,e98];rfl
 intro w xs F hk ha
 match xs,ha with
 | [x0,x1,x2,x3,x4],ha =>
  obtain⟨h0,h1,h2,h3,h4,_⟩:=ha;have h0:x0=AV.aA (E0 ρF) (NT b):=h0;have h1:x1=AV.aA (E0 ρF) (.agg [.opq 20,.opq 21,.opq 22,.opq 23]):=h1;have h2:x2=AV.aA (E0 ρF) (.agg [.opq 60,.opq 64,.opq 68]):=h2;have h3:x3=AV.aA (E0 ρF) (.agg [.opq 72,.opq 76,.opq 80]):=h3;have h4:x4=AV.aA (E0 ρF) (.agg [.opq 84,.opq 88,.opq 92]):=h4;rw [cq] at h1;rw [ct] at h2;rw [cp] at h3;rw [cf] at h4;subst h0 h1 h2 h3 h4;rw [co];refine(acG w hk [] (fun i cs hi=>by simp at hi) (fun v hv=>by cases hv) (fun v hv=>by cases hv) (vals:=[AV.aA (E0 ρF) (NT b),.agg #[.int .i64 27,.int .i64 28,.int .i64 29,.int .i64 30],.agg #[.int .i64 63,.int .i64 66,.int .i64 69],.agg #[.int .i64 72,.int .i64 75,.int .i64 78],.agg #[.int .i64 81,.int .i64 84,.int .i64 87]]) rfl).mono ?_;rintro e w' ⟨us,F',rfl,hc,hs,hk',hu⟩
  match us,hu with
  | [u0,u1,u2],hu =>
   obtain⟨g0,g1,g2,_⟩:=hu;have g0:u0=.agg #[.int .i64 493,.int .i64 495,.int .i64 497,.int .i64 499]:=g0;have g1:u1=.int .i64 98:=g1;have g2:u2=.int .i64 109:=g2;subst g0 g1 g2;exact⟨rfl,hc,F',hs,hk'⟩
theorem am7 (b:MP) (H:Nat->Option Obj) (X:List Nat) (ρF:Nat->Value) (h:lM rhoC ρF):gX (qR b H X) ρF (dF (rF b)) D7 stC:=by
 have hB:lM Qc ρF:=by rw [aqC] at h; exact h.of_append
 have hA:lM acD ρF:=by
  have h':=hB;rw [aqB] at h';exact h'.of_append
 have e:dF (rF b)=(dF (rF b)).take 49++(.call 92 [.v (NT b),.v (.agg [.opq 20,.opq 21,.opq 22,.opq 23]),.v (.agg [.opq 60,.opq 64,.opq 68]),.v (.agg [.opq 72,.opq 76,.opq 80]),.v (.agg [.opq 84,.opq 88,.opq 92])] (.jm [.agg (bQ 4 93),.opq 97,.opq 98])::(dF (rF b)).drop 50):=by rw [<- evF b,List.take_append_drop]
 rw [e];refine(mM (M:=qR b H X)).2 ⟨stA,?_,stB,afS b H X ρF hB,?_⟩
 . obtain⟨ρ',ps',s',h1,_,_,h4⟩:=nO (b:=b) (G:=H) (X:=X) 5000 (EN b)
   have q:=Option.some.inj h1;have q1:ρ'=acD:=congrArg Prod.fst q;have q2:ps'=List.replicate 68 ⟨b.a,0,none⟩:=congrArg (fun q=>q.2.1) q;have q3:s'=stA:=congrArg (fun q=>q.2.2) q;subst q1 q2 q3;exact h4 ρF (fun p hp=>(List.mem_replicate.1 hp).2) hA
 . obtain⟨ρ',ps',s',h1,_,_,h4⟩:=nO (b:=b) (G:=H) (X:=X) 5000 (aqA b)
   obtain⟨_,_,_,_,_,_,_,q1,q2,q3⟩:=JA h1;subst q1 q2 q3;exact h4 ρF (fun p hp=>(List.mem_replicate.1 hp).2) h
theorem aqD:vZ cxF:=fun t n g h a w=>afq t n g h a w
theorem afT {b:MP} (w:World) {F:List Nat} (hk:KR w b D7 F) (ss:List Value)
 (hss:∀(i:Nat) cs,([bQ 20 0]:List (List AV))[i]?=some cs->∃ v,ss[i]?=some v/\Sl w v (ay (dV (([0,1,2,3,4,5,6,7,8,9,10,11,12,13,14,15,16,17,18,19,27,28,29,30,31,32,33]:List Nat).map iZ)) cs)) (hsF:∀ v∈ss,∀ k,dU v=some k->k∉F) (h1:∀ v∈ss,v.oneCell'=true) {vals:List Value} (hvs:ay (E0 (ρS (([0,1,2,3,4,5,6,7,8,9,10,11,12,13,14,15,16,17,18,19,27,28,29,30,31,32,33]:List Nat).map iZ) ss)) [NT b,.lit (.int .i64 0),.vw 1000000 0 20,.agg (bQ 7 20)]=vals) :
 Calls Tryz.prog 54 vals.toArray w fun e w'=>∃ us F',e=.returned (LQ true us)/\ah w w' F/\Sub F' F w/\KR w' b (zD b) F'/\b_ F' w' us ([KE.arr A8,KE.sli dZ].map KE.ca):=by
 obtain⟨ρ',ps',s',hend,_,_,_⟩:=nO (b:=b) (G:=fun _=>none) (X:=[]) 5000 (aqA b);obtain⟨v,g,δ,xs,hr,he,hx,q1,_,_⟩:=JA hend;subst q1;have hd:dF (rF b)=δ:=by rw [hr]; rfl
 have hr':iK cxF 5000 54 [NT b,.lit (.int .i64 0),.vw 1000000 0 20,.agg (bQ 7 20)] ⟨.nil,0,aF [0,1,2,3,4,5,6,7,8,9,10,11,12,13,14,15,16,17,18,19,27,28,29,30,31,32,33]⟩=some (v,g,δ):=hr;refine Gt (cx:=cxF) (s':=stC) rfl (show Tryz.prog.follows .mixedOrders=true by kernel_rfl) aqD rfl hr' (by kernel_rfl) aiX (by decide +kernel) he hx (fun H X ρF hF=>?_) w hk ss hss hsF h1 hvs;rw [<- hd];exact am7 b H X ρF hF
end

section
open Go Go.RowKit Ab Xi
def alj (s:KS):KS:=(((((((s.set 20 502).set 21 505).set 22 508).set 23 511).set 24 514).set 25 520).set 26 517)
def Om (b:MP):KS:=alj (zD b)
def nV (b:MP):KS:=(Om b).answer dZ
theorem aqE(s:KS)(c v:Nat):(s.set c v).rc=⟨35,((1:Nat):Int),0,0,(c:Nat)⟩::⟨34,((1:Nat):Int),0,0,(v:Nat)⟩::s.rc:=rfl
theorem aqF(s:KS)(i:aW):(s.ins i).rc=i::s.rc:=rfl
theorem afU(s:KS)(l:List Nat):(s.answer l).rc=s.rc:=rfl
def Oo(w:Nat):Bool:=decide (jV (iI w)=0)&&decide (encI (iI w)=(w:Int))
set_option maxRecDepth 100000
theorem at6:((wordsOf aY 2921).take 750).all Oo=true:=by kernel_rfl
theorem at7:(((wordsOf aY 2921).drop 750).take 750).all Oo=true:=by kernel_rfl
theorem aua:((((wordsOf aY 2921).drop 750).drop 750).take 750).all Oo=true:=by kernel_rfl
theorem aub:((((wordsOf aY 2921).drop 750).drop 750).drop 750).all Oo=true:=by kernel_rfl
theorem axb{p:Nat->Bool}{l:List Nat}(h0:(l.take 750).all p=true)(h1:((l.drop 750).take 750).all p=true)(h2:(((l.drop 750).drop 750).take 750).all p=true)(h3:(((l.drop 750).drop 750).drop 750).all p=true):l.all p=true:=by
 rw [<- List.take_append_drop 750 l,List.all_append,h0,<- List.take_append_drop 750 (l.drop 750),List.all_append,h1,<- List.take_append_drop 750 ((l.drop 750).drop 750),List.all_append,h2,h3];rfl
theorem WQ:∀ w∈wordsOf aY 2921,jV (iI w)=0/\encI (iI w)=(w:Int):=fun w hw=>by
 have h:=List.all_eq_true.1 (axb at6 at7 aua aub) w hw;unfold Oo at h;rw [Bool.and_eq_true] at h;exact⟨of_decide_eq_true h.1,of_decide_eq_true h.2⟩
theorem am8:((wordsOf aY 2921).map iI).map encI=(wordsOf aY 2921).map fun n:Nat=>(n:Int):=by
 rw [List.map_map];exact List.map_congr_left fun w hw=>(WQ w hw).2
theorem am9:∀ i∈(wordsOf aY 2921).map iI,jV i=0:=fun i hi=>by
 obtain⟨w,hw,rfl⟩:=List.mem_map.1 hi;exact(WQ w hw).1
def TW:List (Nat×Nat)->Nat->Option Nat->Option Nat
 | [],_,acc=>acc
 | p::l,k,acc=>TW l k (bif Nat.beq p.1 k then some p.2 else acc)
theorem WR(k:Nat):∀(fx:List (Nat×Nat)) (acc:Option Nat),(fx.map Ve).foldl (fun acc p=>if p.1=(k:Int) then some p.2 else acc) (acc.map fun n:Nat=>(n:Int))=(TW fx k acc).map fun n:Nat=>(n:Int)
 | [],_=>rfl
 | p::l,acc=>by
  rw [List.map_cons,List.foldl_cons]
  have e:(if(Ve p).1=(k:Int) then some (Ve p).2 else acc.map fun n:Nat=>(n:Int))=((bif Nat.beq p.1 k then some p.2 else acc):Option Nat).map fun n:Nat=>(n:Int):=by
   cases h:Nat.beq p.1 k with
   | true =>
    have h':=beq_iff.1 h;rw [if_pos (by show((p.1:Nat):Int)=_; rw [h'])];rfl
   | false =>
    have h':p.1≠k:=fun e=>by rw [beq_iff.2 e] at h; cases h
    rw [if_neg (by show((p.1:Nat):Int)≠_; omega)];rfl
  rw [e];exact WR k l _
def acH(fx:List (Nat×Nat)):Nat->List Nat->Bool
 | _,[]=>true
 | k,w::l=>(match TW fx k none with | some t=>Nat.beq (gY w) 38&&Nat.beq t (nN w) | none=>bif Nat.beq (gY w) 38 then false else true)&&fP (Nat.add k 1) fun k'=>acH fx k' l
theorem aag{fx:List (Nat×Nat)}:∀ {l:List Nat} {k:Nat},acH fx k l=true->∀(i w:Nat),l[i]?=some w->patched (fx.map Ve) (k+i) (Fp w)=iI w
 | [],_,_,i,w,h=>by simp at h
 | w0::l,k,h,i,w,hw=>by
  unfold acH at h;rw [Bool.and_eq_true,zk] at h;obtain⟨h1,h2⟩:=h
  cases i with
  | zero =>
   have e:w0=w:=by simpa using hw
   subst e;unfold patched zh;have hl:=WR k fx none;rw [show((none:Option Nat).map fun n:Nat=>(n:Int))=none from rfl] at hl;rw [Nat.add_zero,hl]
   cases hk:TW fx k none with
   | some t =>
    rw [hk] at h1;simp only [Bool.and_eq_true] at h1;have e1:=beq_iff.1 h1.1;have e2:=beq_iff.1 h1.2;show({ Fp w0 with n:=(t:Int) }:aW)=_;unfold Fp iI;rw [h1.1,e1,e2];rfl
   | none =>
    rw [hk] at h1;simp only [] at h1
    cases hb:Nat.beq (gY w0) 38 with
    | true=>rw [hb] at h1; cases h1
    | false =>
     show Fp w0=_;unfold Fp;rw [hb];rfl
  | succ i =>
   have:=aag h2 i w (by simpa using hw);rw [show k+(i+1)=Nat.add k 1+i by show _=k+1+i; omega];exact this
def fxF:List (Nat×Nat):=[(77,44),(79,26),(345,311),(613,579),(934,900),(1396,1362),(1716,1682),(2016,1952),(2145,2111),(2269,2205),(2434,2370),(2885,2852),(2887,2834)]
theorem axc:acH fxF 0 (wordsOf aY 2921)=true:=by kernel_rfl
theorem codeF:uP (fxF.map Ve) ((wordsOf aY 2921).map Fp)=(wordsOf aY 2921).map fun w:Nat=>(w:Int):=by
 apply List.ext_getElem?;intro k;unfold uP;rw [List.getElem?_mapIdx,List.getElem?_map,List.getElem?_map]
 cases hw:(wordsOf aY 2921)[k]? with
 | none=>rfl
 | some w =>
  have:=aag axc k w hw;rw [Nat.zero_add] at this;simp only [Option.map_some,this];rw [(WQ w (List.mem_of_getElem? hw)).2]
theorem aqH:stC.rc=(((wordsOf aY 2921).take 2906).map Fp).reverse:=by unfold stC Qb; rfl
theorem afV(b:MP):((nV b).ins ⟨43,0,0,0,0⟩).rc.reverse=(wordsOf aY 2921).map Fp:=by
 unfold nV Om alj zD;simp only [aqF,afU,aqE,List.reverse_cons,List.append_assoc,List.cons_append,List.nil_append];rw [aqH,List.reverse_reverse]
 conv=>rhs; rw [<- List.take_append_drop 2906 (wordsOf aY 2921),List.map_append]
 congr 1
theorem am_(b:MP):Hf ((nV b).ins ⟨43,0,0,0,0⟩).rd.reverse ((nV b).ins ⟨43,0,0,0,0⟩).ru.reverse=some fxF:=by kernel_rfl
theorem ana(b:MP):Vf ((nV b).ins ⟨43,0,0,0,0⟩)=some ((wordsOf aY 2921).map fun w:Nat=>(w:Int)):=by
 unfold Vf;rw [am_];have hl:((nV b).ins ⟨43,0,0,0,0⟩).rc.length=2921:=by rw [<- List.length_reverse,afV,List.length_map,RF]
 simp only [];rw [hl,afV,codeF];rfl
end

section
open Go Go.RowKit Ab Xi
set_option maxRecDepth 100000
theorem aqI(b:MP):((nV b).ins ⟨43,0,0,0,0⟩).NQ=true:=by kernel_rfl
theorem aqJ(b:MP):Nat.ble (nV b).ru.length 100000=true:=by kernel_rfl
theorem aqK(b:MP):Nat.ble (zD b).nc 700000=true:=by kernel_rfl
theorem aqL(b:MP):Nat.ble ((Om b).ro.length+dZ.length) 2048=true:=by kernel_rfl
theorem anb(b:MP):Jl (nV b)=dA:=by kernel_rfl
theorem ai0(b:MP):dW (nV b).rr.reverse=kR:=by kernel_rfl
theorem anc(b:MP):(nV b).ri.reverse=[0,1,2,3,4,5,6,7,8,9,10,11,12,13,14,15,16,17,18,19]:=by kernel_rfl
theorem ai1(b:MP):(nV b).ro.reverse=dZ:=by kernel_rfl
end

section
open Go Go.RowKit Go.Deep Go.Maps Ab Xi
attribute [local go_sem] Oper.semAt_some
def kS:Nat->KS
 | 0=>Q5.given 20
 | 1=>(Q5.given 20).stays 1073741824
 | j+2=>(kS (j+1)).stays 0
theorem Ou:∀ j,j<7->(kS j).can 1=true:=fun j hj=>by
 rcases (by omega:j=0\/j=1\/j=2\/j=3\/j=4\/j=5\/j=6) with rfl | rfl | rfl | rfl | rfl | rfl | rfl<;>kernel_rfl
theorem JB:∀ j,j<=7->(kS j).used=20+j:=fun j hj=>by
 rcases (by omega:j=0\/j=1\/j=2\/j=3\/j=4\/j=5\/j=6\/j=7) with rfl | rfl | rfl | rfl | rfl | rfl | rfl | rfl<;>kernel_rfl
theorem anj(j:Nat):(kS j).stays (if j=0 then 1073741824 else 0)=kS (j+1):=by
 rcases j with _ | j
 . rfl
 . rfl
def dJ(j:Nat):List Value:=(List.range 7).map fun i=>.int .i64 (if i<j then((20+i:Nat):Int) else 0)
theorem af0(j:Nat):(dJ j).length=7:=by simp [dJ]
theorem xY:∀ j,j<7->(dJ j).set j (.int .i64 ((20+j:Nat):Int))=dJ (j+1):=fun j hj=>by
 match j,hj with
 | 0,_=>rfl
 | 1,_=>rfl
 | 2,_=>rfl
 | 3,_=>rfl
 | 4,_=>rfl
 | 5,_=>rfl
 | 6,_=>rfl
theorem Y4 {w:World} {b:MP} {F:List Nat} (hQ:11<=w.heap.size) (h:KR w b (Q5.given 20) F) :
 Calls Tryz.prog 50 #[.pointer (some ⟨b.a,0,none⟩)] w (iW (.agg (dJ 7).toArray) WO b F w):=by
 have hs0:=(aC.new w 102 (dJ 0)).alloc (.cells (dJ 0).toArray 102);have hs1:=aC.new (w.alloc (.cells (dJ 0).toArray 102)) 102 (dJ 0);have hz:(w.alloc (.cells (dJ 0).toArray 102)).heap.size=w.heap.size+1:=size_alloc _ _;rw [hz] at hs1;have hc0:ah w ((w.alloc (.cells (dJ 0).toArray 102)).alloc (.cells (dJ 0).toArray 102)) []:=((ah.refl w []).alloc _).alloc _;have hk0:=h.bJ hc0;have he:dJ 0=[.int .i64 0,.int .i64 0,.int .i64 0,.int .i64 0,.int .i64 0,.int .i64 0,.int .i64 0]:=rfl;have hq0:11<=w.heap.size:=hQ;have qM:=hide (show ∀ k∈F,k<w.heap.size from fun k hk=>h.lt k hk);rw [he] at hs0 hs1 hc0 hk0 hz;have H0:=hide hs0;have H1:=hide hs1;have mg:=hide hc0;have HK0:=hide hk0;have HQ:=hide hq0;clear hq0 hQ h hs0 hs1 hc0 hk0 he;go_enter Tryz.func50,Tryz.ntmps50
 go_wp2_with fail
 generalize hM:w.heap.size=M at *;have HMM:=hide hM;generalize hW:(w.alloc (.cells #[.int .i64 0,.int .i64 0,.int .i64 0,.int .i64 0,.int .i64 0,.int .i64 0,.int .i64 0] 102)).alloc (.cells #[.int .i64 0,.int .i64 0,.int .i64 0,.int .i64 0,.int .i64 0,.int .i64 0,.int .i64 0] 102)=W0 at *;have hzW:W0.heap.size=M+2:=by rw [<- hW,size_alloc,hz]
 have yN:=hide (show ∀ k,M<=k->k<M+2->∀ F',Sub F' F W0->k∉F' from fun k h1 h2 F' hs hm=>by
  rcases hs k hm with h | h
  . have:=qM.out k h; omega
  . omega)
 clear hW hzW hz;go_loopw [4,5,8] (fun _ _ i wr=>∃ j:Nat,j<=4/\i=.int .i64 j/\Hid (ah W0 wr ((M+1)::F))/\Hid (∃ F',Sub F' F W0/\KR wr b (kS j) F')/\Hid (aC wr (M+1) 102 (dJ j))/\Hid (aC wr M 102 (dJ 0))) (fun _ _ i _=>4 - (intOf i).toNat)
 case atStart=>exact⟨0,Nat.zero_le _,rfl,hide (ah.refl _ _),hide ⟨F,Sub.refl _ _,HK0.out⟩,H1,H0⟩
 case round =>
  clear HK0 H0 H1;obtain⟨j,hj,rfl,HC,HK,HB,HR⟩:=hrel;by_cases hlt:j<4
  . obtain⟨F1,hs1,hk1⟩:=HK.out
    have hst:=xw hk1 (if j=0 then 1073741824 else 0) (by split<;>(unfold aB; omega)) (Ou j (by omega));rw [anj,JB j (by omega)] at hst;obtain⟨y,hy⟩:∃ y,(dJ j)[j]?=some y:=⟨(dJ j)[j]'(by rw [af0]; omega),by simp⟩
    have fJ:=hide hs1;have jR:=hide (show M+1∉F1/\M∉F1 from⟨fun hm=>yN.out (M+1) (by omega) (by omega) F1 hs1 hm,fun hm=>yN.out M (by omega) (by omega) F1 hs1 hm⟩);clear hs1 hk1;by_cases h0:j=0
    . subst h0
      rw [if_pos rfl] at hst;clear hj hlt;go_wp2_with fail
      go_at_call 84;refine hst.mono ?_;rintro e w2 ⟨rfl,hc2,F2,hs2,hk2⟩;have hb2:=HB.out.aj hc2 jR.out.1;have HR2:=hide (HR.out.aj hc2 jR.out.2);have z:=hb2.cell' hy;have f:=hb2.frozen 0;have hbl:=hb2.lt;have hset:=xY 0 (by omega);have uy:=hide (show aC (w2.setCell ⟨M+1,0,none⟩ (.int .i64 ((20+0:Nat):Int))) (M+1) 102 (dJ (0+1)) from hset▸hb2.aK 0 _);have hS:ah w2 (w2.setCell ⟨M+1,0,none⟩ (.int .i64 ((20+0:Nat):Int))) [M+1]:=(ah.refl w2 [M+1]).setCell _ _ (.inl (List.mem_singleton.2 rfl));have HC2:=hide (show ah W0 (w2.setCell ⟨M+1,0,none⟩ (.int .i64 ((20+0:Nat):Int))) ((M+1)::F) from(HC.out.trans hc2 (fun k hk=>(fJ.out k hk).imp_left fun h=>List.mem_cons_of_mem _ h)).trans hS (fun k hk=>.inl (by simp at hk; simp [hk])))
      have HS2:=hide (show Sub F2 F W0 from fun k hk=>by
       rcases hs2 k hk with h | h
       . exact fJ.out k h
       . exact .inr (Nat.le_trans HC.out.size h))
      have HF2:=hide (show M+1∉F2/\M∉F2 from⟨fun hm=>yN.out (M+1) (by omega) (by omega) F2 HS2.out hm,fun hm=>yN.out M (by omega) (by omega) F2 HS2.out hm⟩);have jY:=hide (hk2.aj hS (fun k hk hm=>HF2.out.1 (by simp at hm; exact hm▸hk)) (fun k hk=>by have:=HQ.out; simp at hk; omega));have HR3:=hide (HR2.out.aj hS (by simp));clear hst hc2 hs2 hk2 hb2 hset hS hy;go_wp2;go_roundw
      case rel=>exact⟨0+1,by omega,by go_num,HC2,hide ⟨F2,HS2.out,jY.out⟩,uy,HR3⟩
      case measure=>simp [intOf]
    . rw [if_neg h0] at hst
      have t0:((j:Int)==0)=false:=by simp; omega
      clear h0;go_wp2_with fail
      go_at_call 84;refine hst.mono ?_;rintro e w2 ⟨rfl,hc2,F2,hs2,hk2⟩;have hb2:=HB.out.aj hc2 jR.out.1;have HR2:=hide (HR.out.aj hc2 jR.out.2);have z:=hb2.cell' hy;have f:=hb2.frozen j;have hbl:=hb2.lt;have hset:=xY j (by omega);have uy:=hide (show aC (w2.setCell ⟨M+1,j,none⟩ (.int .i64 ((20+j:Nat):Int))) (M+1) 102 (dJ (j+1)) from hset▸hb2.aK j _);have hS:ah w2 (w2.setCell ⟨M+1,j,none⟩ (.int .i64 ((20+j:Nat):Int))) [M+1]:=(ah.refl w2 [M+1]).setCell _ _ (.inl (List.mem_singleton.2 rfl));have HC2:=hide (show ah W0 (w2.setCell ⟨M+1,j,none⟩ (.int .i64 ((20+j:Nat):Int))) ((M+1)::F) from(HC.out.trans hc2 (fun k hk=>(fJ.out k hk).imp_left fun h=>List.mem_cons_of_mem _ h)).trans hS (fun k hk=>.inl (by simp at hk; simp [hk])))
      have HS2:=hide (show Sub F2 F W0 from fun k hk=>by
       rcases hs2 k hk with h | h
       . exact fJ.out k h
       . exact .inr (Nat.le_trans HC.out.size h))
      have HF2:=hide (show M+1∉F2/\M∉F2 from⟨fun hm=>yN.out (M+1) (by omega) (by omega) F2 HS2.out hm,fun hm=>yN.out M (by omega) (by omega) F2 HS2.out hm⟩);have jY:=hide (hk2.aj hS (fun k hk hm=>HF2.out.1 (by simp at hm; exact hm▸hk)) (fun k hk=>by have:=HQ.out; simp at hk; omega));have HR3:=hide (HR2.out.aj hS (by simp));clear hst hc2 hs2 hk2 hb2 hset hS hy;go_wp2;go_roundw
      case rel=>exact⟨j+1,by omega,by go_num,HC2,hide ⟨F2,HS2.out,jY.out⟩,uy,HR3⟩
      case measure=>simp [intOf]; omega
  . obtain rfl:j=4:=by omega
    have jB:=HC;have HK4:=HK;have HB4:=HB;have HR4:=HR;clear HC HK HB HR hlt hj;go_wp2_with fail
    go_loopw [7,24] (fun _ i wr=>∃ j:Nat,j<=3/\i=.int .i64 j/\Hid (ah W0 wr ((M+1)::F))/\Hid (∃ F',Sub F' F W0/\KR wr b (kS (4+j)) F')/\Hid (aC wr (M+1) 102 (dJ (4+j)))/\Hid (aC wr M 102 (dJ 0))) (fun _ i _=>3 - (intOf i).toNat)
    case atStart=>exact⟨0,Nat.zero_le _,rfl,jB,HK4,HB4,HR4⟩
    case round =>
     clear jB HK4 HB4 HR4;obtain⟨j,hj,rfl,HC,HK,HB,HR⟩:=hrel;by_cases hlt:j<3
     . obtain⟨F1,hs1,hk1⟩:=HK.out
       have fJ:=hide hs1;have jR:=hide (show M+1∉F1/\M∉F1 from⟨fun hm=>yN.out (M+1) (by omega) (by omega) F1 hs1 hm,fun hm=>yN.out M (by omega) (by omega) F1 hs1 hm⟩);rcases (by omega:j=0\/j=1\/j=2) with rfl | rfl | rfl
       . have hst:=xw hk1 0 (by unfold aB; omega) (Ou 4 (by omega))
         rw [show(kS 4).stays 0=kS 5 from rfl,JB 4 (by omega)] at hst;obtain⟨y,hy⟩:∃ y,(dJ 4)[4]?=some y:=⟨_,rfl⟩
         clear hs1 hk1 hj hlt;have hix:∀ w:World,(Instr.index 163 (.agg #[.pointer (some ⟨M+1,4,none⟩),.pointer (some ⟨M+1,5,none⟩),.pointer (some ⟨M+1,6,none⟩)]) (.int .i64 0)).run Tryz.prog w=.ok (.pointer (some ⟨M+1,4,none⟩)) w:=fun _=>by kernel_rfl
         go_wp2_with fail
         go_at_call 84;refine hst.mono ?_;rintro e w2 ⟨rfl,hc2,F2,hs2,hk2⟩;have hb2:=HB.out.aj hc2 jR.out.1;have HR2:=hide (HR.out.aj hc2 jR.out.2);have z:=hb2.cell' hy;have f:=hb2.frozen 4;have hbl:=hb2.lt;have hset:=xY 4 (by omega);have uy:=hide (show aC (w2.setCell ⟨M+1,4,none⟩ (.int .i64 ((20+4:Nat):Int))) (M+1) 102 (dJ (4+1)) from hset▸hb2.aK 4 _);have hS:ah w2 (w2.setCell ⟨M+1,4,none⟩ (.int .i64 ((20+4:Nat):Int))) [M+1]:=(ah.refl w2 [M+1]).setCell _ _ (.inl (List.mem_singleton.2 rfl));have HC2:=hide (show ah W0 (w2.setCell ⟨M+1,4,none⟩ (.int .i64 ((20+4:Nat):Int))) ((M+1)::F) from(HC.out.trans hc2 (fun k hk=>(fJ.out k hk).imp_left fun h=>List.mem_cons_of_mem _ h)).trans hS (fun k hk=>.inl (by simp at hk; simp [hk])))
         have HS2:=hide (show Sub F2 F W0 from fun k hk=>by
          rcases hs2 k hk with h | h
          . exact fJ.out k h
          . exact .inr (Nat.le_trans HC.out.size h))
         have HF2:=hide (show M+1∉F2/\M∉F2 from⟨fun hm=>yN.out (M+1) (by omega) (by omega) F2 HS2.out hm,fun hm=>yN.out M (by omega) (by omega) F2 HS2.out hm⟩);have jY:=hide (hk2.aj hS (fun k hk hm=>HF2.out.1 (by simp at hm; exact hm▸hk)) (fun k hk=>by have:=HQ.out; simp at hk; omega));have HR3:=hide (HR2.out.aj hS (by simp));clear hst hc2 hs2 hk2 hb2 hset hS hy;go_wp2;refine⟨⟨_,_,_,_,_,_,_,_,_,⟨0+1,by omega,by go_num,HC2,hide ⟨F2,HS2.out,jY.out⟩,uy,HR3⟩,rfl⟩,?_⟩;simp [intOf]
       . have hst:=xw hk1 0 (by unfold aB; omega) (Ou 5 (by omega))
         rw [show(kS 5).stays 0=kS 6 from rfl,JB 5 (by omega)] at hst;obtain⟨y,hy⟩:∃ y,(dJ 5)[5]?=some y:=⟨_,rfl⟩
         clear hs1 hk1 hj hlt;have hix:∀ w:World,(Instr.index 163 (.agg #[.pointer (some ⟨M+1,4,none⟩),.pointer (some ⟨M+1,5,none⟩),.pointer (some ⟨M+1,6,none⟩)]) (.int .i64 1)).run Tryz.prog w=.ok (.pointer (some ⟨M+1,5,none⟩)) w:=fun _=>by kernel_rfl
         go_wp2_with fail
         go_at_call 84;refine hst.mono ?_;rintro e w2 ⟨rfl,hc2,F2,hs2,hk2⟩;have hb2:=HB.out.aj hc2 jR.out.1;have HR2:=hide (HR.out.aj hc2 jR.out.2);have z:=hb2.cell' hy;have f:=hb2.frozen 5;have hbl:=hb2.lt;have hset:=xY 5 (by omega);have uy:=hide (show aC (w2.setCell ⟨M+1,5,none⟩ (.int .i64 ((20+5:Nat):Int))) (M+1) 102 (dJ (5+1)) from hset▸hb2.aK 5 _);have hS:ah w2 (w2.setCell ⟨M+1,5,none⟩ (.int .i64 ((20+5:Nat):Int))) [M+1]:=(ah.refl w2 [M+1]).setCell _ _ (.inl (List.mem_singleton.2 rfl));have HC2:=hide (show ah W0 (w2.setCell ⟨M+1,5,none⟩ (.int .i64 ((20+5:Nat):Int))) ((M+1)::F) from(HC.out.trans hc2 (fun k hk=>(fJ.out k hk).imp_left fun h=>List.mem_cons_of_mem _ h)).trans hS (fun k hk=>.inl (by simp at hk; simp [hk])))
         have HS2:=hide (show Sub F2 F W0 from fun k hk=>by
          rcases hs2 k hk with h | h
          . exact fJ.out k h
          . exact .inr (Nat.le_trans HC.out.size h))
         have HF2:=hide (show M+1∉F2/\M∉F2 from⟨fun hm=>yN.out (M+1) (by omega) (by omega) F2 HS2.out hm,fun hm=>yN.out M (by omega) (by omega) F2 HS2.out hm⟩);have jY:=hide (hk2.aj hS (fun k hk hm=>HF2.out.1 (by simp at hm; exact hm▸hk)) (fun k hk=>by have:=HQ.out; simp at hk; omega));have HR3:=hide (HR2.out.aj hS (by simp));clear hst hc2 hs2 hk2 hb2 hset hS hy;go_wp2;refine⟨⟨_,_,_,_,_,_,_,_,_,⟨1+1,by omega,by go_num,HC2,hide ⟨F2,HS2.out,jY.out⟩,uy,HR3⟩,rfl⟩,?_⟩;simp [intOf]
       . have hst:=xw hk1 0 (by unfold aB; omega) (Ou 6 (by omega))
         rw [show(kS 6).stays 0=kS 7 from rfl,JB 6 (by omega)] at hst;obtain⟨y,hy⟩:∃ y,(dJ 6)[6]?=some y:=⟨_,rfl⟩
         clear hs1 hk1 hj hlt;have hix:∀ w:World,(Instr.index 163 (.agg #[.pointer (some ⟨M+1,4,none⟩),.pointer (some ⟨M+1,5,none⟩),.pointer (some ⟨M+1,6,none⟩)]) (.int .i64 2)).run Tryz.prog w=.ok (.pointer (some ⟨M+1,6,none⟩)) w:=fun _=>by kernel_rfl
         go_wp2_with fail
         go_at_call 84;refine hst.mono ?_;rintro e w2 ⟨rfl,hc2,F2,hs2,hk2⟩;have hb2:=HB.out.aj hc2 jR.out.1;have HR2:=hide (HR.out.aj hc2 jR.out.2);have z:=hb2.cell' hy;have f:=hb2.frozen 6;have hbl:=hb2.lt;have hset:=xY 6 (by omega);have uy:=hide (show aC (w2.setCell ⟨M+1,6,none⟩ (.int .i64 ((20+6:Nat):Int))) (M+1) 102 (dJ (6+1)) from hset▸hb2.aK 6 _);have hS:ah w2 (w2.setCell ⟨M+1,6,none⟩ (.int .i64 ((20+6:Nat):Int))) [M+1]:=(ah.refl w2 [M+1]).setCell _ _ (.inl (List.mem_singleton.2 rfl));have HC2:=hide (show ah W0 (w2.setCell ⟨M+1,6,none⟩ (.int .i64 ((20+6:Nat):Int))) ((M+1)::F) from(HC.out.trans hc2 (fun k hk=>(fJ.out k hk).imp_left fun h=>List.mem_cons_of_mem _ h)).trans hS (fun k hk=>.inl (by simp at hk; simp [hk])))
         have HS2:=hide (show Sub F2 F W0 from fun k hk=>by
          rcases hs2 k hk with h | h
          . exact fJ.out k h
          . exact .inr (Nat.le_trans HC.out.size h))
         have HF2:=hide (show M+1∉F2/\M∉F2 from⟨fun hm=>yN.out (M+1) (by omega) (by omega) F2 HS2.out hm,fun hm=>yN.out M (by omega) (by omega) F2 HS2.out hm⟩);have jY:=hide (hk2.aj hS (fun k hk hm=>HF2.out.1 (by simp at hm; exact hm▸hk)) (fun k hk=>by have:=HQ.out; simp at hk; omega));have HR3:=hide (HR2.out.aj hS (by simp));clear hst hc2 hs2 hk2 hb2 hset hS hy;go_wp2;refine⟨⟨_,_,_,_,_,_,_,_,_,⟨2+1,by omega,by go_num,HC2,hide ⟨F2,HS2.out,jY.out⟩,uy,HR3⟩,rfl⟩,?_⟩;simp [intOf]
     . obtain rfl:j=3:=by omega
       obtain⟨F1,hs1,hk1⟩:=HK.out;have fJ:=hide hs1;have J8:=hide hk1;have jR:=hide (show M+1∉F1/\M∉F1 from⟨fun hm=>yN.out (M+1) (by omega) (by omega) F1 hs1 hm,fun hm=>yN.out M (by omega) (by omega) F1 hs1 hm⟩);have hb:=HB.out;have hr:=HR.out;clear hs1 hk1 hj hlt;go_wp2_with (refine wpList_load_row rfl 102 (.tmp 3) rfl (M+1) rfl 102 (dJ 7).toArray (0,0) _ hb Tryz.underlying102 rfl (by kernel_rfl) ?_; refine wpList_store_row rfl 102 _ _ rfl M (dJ 7).toArray rfl rfl 102 _ hr (by kernel_rfl) (by rfl) (by kernel_rfl) ?_);have hb':aC (wr.setRow M (dJ 7).toArray) M 102 (dJ 7):=setRow_heap wr M _ _ _ _ hr;have hc':=Ot wr M (dJ 7).toArray;generalize wr.setRow M (dJ 7).toArray=w9 at *;have HB9:=hide hb';have ZM:=hide hc';clear hb hr hb' hc';go_wp2;refine bodyPost_ret (v:=.agg (dJ 7).toArray) (results_cell_row rfl _ _ M 102 _ (0,0) _ rfl HB9.out Tryz.underlying102 rfl (by kernel_rfl)) rfl ?_;have hch:ah W0 w9 (M::(M+1)::F):=(HC.out.more (fun k hk=>.inl (List.mem_cons_of_mem _ hk))).trans ZM.out (fun k hk=>.inl (by simp at hk; simp [hk]));refine⟨rfl,(mg.out.more (D':=F) (by simp)).trans hch (fun k hk=>?_),F1,fun k hk=>?_,?_⟩
       . simp only [List.mem_cons] at hk
         have:=HMM.out;rcases hk with rfl | rfl | hk
         . exact .inr (by omega)
         . exact .inr (by omega)
         . exact .inl hk
       . rcases fJ.out k hk with h | h
         . exact .inl h
         . exact .inr (Nat.le_trans mg.out.size h)
       . exact J8.out.aj ZM.out (fun k hk hm=>jR.out.2 (by simp at hm; exact hm▸hk)) (fun k hk=>by have:=HQ.out; have:=HMM.out; simp at hk; omega)
theorem Y5 {w:World} (a b kk:Nat) (Inv:Nat->World->Prop) (hst:∀ j w w',Inv j w->ah w w' []->Inv j w')
 (hdo:∀ j,j<7->∀ w,Inv j w->Calls Tryz.prog 52 #[.pointer (some ⟨a,j,none⟩),.pointer (some ⟨b,j,none⟩),.pointer (some ⟨kk,0,none⟩)] w fun e w'=>(∃ v,e=.returned v)/\Inv (j+1) w') (h:Inv 0 w) :
 Calls Tryz.prog 51 #[.pointer (some ⟨a,0,none⟩),.pointer (some ⟨b,0,none⟩),.func (.func 52) #[] #[.pointer (some ⟨kk,0,none⟩)]] w fun e w'=>(∃ v,e=.returned v)/\Inv 7 w':=by
 have HST:=hide hst;have kM:=hide hdo;have HI:=hide h;clear hst hdo h;go_enter Tryz.func51,Tryz.ntmps51
 go_wp2_with fail
 go_loopw [6,7] (fun _ i wr=>∃ j:Nat,j<=4/\i=.int .i64 j/\Hid (Inv j wr)) (fun _ i _=>4 - (intOf i).toNat)
 case atStart=>exact⟨0,Nat.zero_le _,rfl,HI⟩
 case round =>
  clear HI;obtain⟨j,hj,rfl,HJ⟩:=hrel;by_cases hlt:j<4
  . have hc:=kM.out j (by omega) wr.drew (HST.out _ _ _ HJ.out (ah.refl wr []).drew)
    go_wp2_with fail
    go_still_tail 11,(by kernel_rfl)
    change wpList _ _ _ _ _ wr.drew;go_wp2_with fail
    go_at_call 52;refine hc.mono ?_;rintro e w1 ⟨⟨v,rfl⟩,hi⟩;have HN:=hide hi;clear hc hi;go_wp2;go_roundw
    case rel=>exact⟨j+1,by omega,by go_num,HN⟩
    case measure=>simp [intOf]; omega
  . obtain rfl:j=4:=by omega
    have wrI:=HJ.out;clear hlt hj;have hc4:=kM.out 4 (by omega) wr.drew (HST.out _ _ _ wrI (ah.refl wr []).drew);go_wp2_with fail
    go_still_tail 7,(by kernel_rfl)
    change wpList _ _ _ _ _ wr.drew;go_wp2_with fail
    go_at_call 52;refine hc4.mono ?_;rintro e v4 ⟨⟨x4,rfl⟩,v4I⟩;clear hc4;have hc5:=kM.out 5 (by omega) v4.drew (HST.out _ _ _ v4I (ah.refl v4 []).drew);go_wp2_with fail
    go_still_tail 7,(by kernel_rfl)
    change wpList _ _ _ _ _ v4.drew;go_wp2_with fail
    go_at_call 52;refine hc5.mono ?_;rintro e v5 ⟨⟨x5,rfl⟩,v5I⟩;clear hc5;have hc6:=kM.out 6 (by omega) v5.drew (HST.out _ _ _ v5I (ah.refl v5 []).drew);go_wp2_with fail
    go_still_tail 7,(by kernel_rfl)
    change wpList _ _ _ _ _ v5.drew;go_wp2_with fail
    go_at_call 52;refine hc6.mono ?_;rintro e v6 ⟨⟨x6,rfl⟩,v6I⟩;clear hc6;have HN:=hide v6I;clear v6I wrI v4I v5I;go_wp2;refine bodyPost_end (results_none rfl _ _ _) rfl ⟨⟨_,rfl⟩,HN.out⟩
theorem Y6 {w:World} (a b kk:Nat) (Inv:Nat->World->Prop) (hst:∀ j w w',Inv j w->ah w w' []->Inv j w')
 (hdo:∀ j,j<7->∀ w,Inv j w->Calls Tryz.prog 56 #[.pointer (some ⟨a,j,none⟩),.pointer (some ⟨b,j,none⟩),.pointer (some ⟨kk,0,none⟩)] w fun e w'=>(∃ v,e=.returned v)/\Inv (j+1) w') (h:Inv 0 w) :
 Calls Tryz.prog 51 #[.pointer (some ⟨a,0,none⟩),.pointer (some ⟨b,0,none⟩),.func (.func 56) #[] #[.pointer (some ⟨kk,0,none⟩)]] w fun e w'=>(∃ v,e=.returned v)/\Inv 7 w':=by
 have HST:=hide hst;have kM:=hide hdo;have HI:=hide h;clear hst hdo h;go_enter Tryz.func51,Tryz.ntmps51
 go_wp2_with fail
 go_loopw [6,7] (fun _ i wr=>∃ j:Nat,j<=4/\i=.int .i64 j/\Hid (Inv j wr)) (fun _ i _=>4 - (intOf i).toNat)
 case atStart=>exact⟨0,Nat.zero_le _,rfl,HI⟩
 case round =>
  clear HI;obtain⟨j,hj,rfl,HJ⟩:=hrel;by_cases hlt:j<4
  . have hc:=kM.out j (by omega) wr.drew (HST.out _ _ _ HJ.out (ah.refl wr []).drew)
    go_wp2_with fail
    go_still_tail 11,(by kernel_rfl)
    change wpList _ _ _ _ _ wr.drew;go_wp2_with fail
    go_at_call 56;refine hc.mono ?_;rintro e w1 ⟨⟨v,rfl⟩,hi⟩;have HN:=hide hi;clear hc hi;go_wp2;go_roundw
    case rel=>exact⟨j+1,by omega,by go_num,HN⟩
    case measure=>simp [intOf]; omega
  . obtain rfl:j=4:=by omega
    have wrI:=HJ.out;clear hlt hj;have hc4:=kM.out 4 (by omega) wr.drew (HST.out _ _ _ wrI (ah.refl wr []).drew);go_wp2_with fail
    go_still_tail 7,(by kernel_rfl)
    change wpList _ _ _ _ _ wr.drew;go_wp2_with fail
    go_at_call 56;refine hc4.mono ?_;rintro e v4 ⟨⟨x4,rfl⟩,v4I⟩;clear hc4;have hc5:=kM.out 5 (by omega) v4.drew (HST.out _ _ _ v4I (ah.refl v4 []).drew);go_wp2_with fail
    go_still_tail 7,(by kernel_rfl)
    change wpList _ _ _ _ _ v4.drew;go_wp2_with fail
    go_at_call 56;refine hc5.mono ?_;rintro e v5 ⟨⟨x5,rfl⟩,v5I⟩;clear hc5;have hc6:=kM.out 6 (by omega) v5.drew (HST.out _ _ _ v5I (ah.refl v5 []).drew);go_wp2_with fail
    go_still_tail 7,(by kernel_rfl)
    change wpList _ _ _ _ _ v5.drew;go_wp2_with fail
    go_at_call 56;refine hc6.mono ?_;rintro e v6 ⟨⟨x6,rfl⟩,v6I⟩;clear hc6;have HN:=hide v6I;clear v6I wrI v4I v5I;go_wp2;refine bodyPost_end (results_none rfl _ _ _) rfl ⟨⟨_,rfl⟩,HN.out⟩
def vI1 (a c kk j x u:Nat) (b:MP):Nat->Value
 | 0=>.pointer (some ⟨a,j,none⟩)
 | 1=>.pointer (some ⟨b.a,0,none⟩)
 | 2=>.pointer (some ⟨c,j,none⟩)
 | 3=>.pointer (some ⟨c,j,none⟩)
 | 4=>.int .i64 (x:Int)
 | 5=>.int .i64 (u:Int)
 | 6=>.pointer (some ⟨a,j,none⟩)
 | 7=>undef
 | _=>undef
def A_ (w:World) (F:List Nat) (b:MP) (s:KS) (a j x u:Nat) (cs:List Value) (k:Nat) (w':World):Prop:=match k with
 | 0=>ah w w' []
 | 1=>ah w w' F/\∃ F',Sub F' F w/\KR w' b (s.cell x) F'
 | _=>ah w w' (a::F)/\(∃ F',Sub F' F w/\KR w' b (s.cell x) F')/\aC w' a 102 (cs.set j (.int .i64 (u:Int)))
theorem WU{w:World}{b:MP}{s:KS}{F:List Nat}(h:KR w b s F)(a c kk j x:Nat)(cs ds:List Value)(ha:aC w a 102 cs)(hc:aC w c 102 ds)(hk:aC w kk 96 [.pointer (some ⟨b.a,0,none⟩)])(haF:a∉F)(Gq:c∉F)(hkF:kk∉F)(hac:a≠c)(hak:a≠kk)(hQ:11<=a)(hj:j<7)(hcl:cs.length=7)(hx:ds[j]?=some (.int .i64 (x:Int)))(hxl:x<=2048)(hcan:s.can 1=true) :
 Calls Tryz.prog 52 #[.pointer (some ⟨a,j,none⟩),.pointer (some ⟨c,j,none⟩),.pointer (some ⟨kk,0,none⟩)] w fun e w'=>(∃ v,e=.returned v)/\ah w w' (a::F)/\(∃ F',Sub F' F w/\KR w' b (s.cell x) F')/\aC w' a 102 (cs.set j (.int .i64 (s.used:Int))):=by
 have fG:=hide (show Tryz.prog.follows .mixedOrders=true by kernel_rfl);have HG:=hide (fun w1 (hw:ah w w1 [])=>Rh (h.bJ hw) x hxl hcan);have Rj:=hide hc;have HKK:=hide hk;have HA:=hide ha;have HX:=hide hx;have HCL:=hide hcl;have HN:=hide (show a∉F/\c∉F/\kk∉F from⟨haF,Gq,hkF⟩);have HQ:=hide hQ;have ZH:=hide h;clear h hc hk ha hx haF Gq hkF hcl hQ;generalize hu:s.used=u at *;clear hu;go_enter Tryz.func52,Tryz.ntmps52
 go_upto_region 0 with(fail)
 refine iC fG.out _ _ (fun(_:Nat)=>vI1 a c kk j x u b) (fun(q:Nat) L w'=>A_ w F b s a j x u cs (aX L [5,7]) w') 0 (by kernel_rfl) [] (by kernel_rfl) (fun p hp γ=>by simp at hp) (by kernel_rfl) ?step ?start ?fin ?ext
 case start=>exact(ah.refl w []).drew
 case ext =>
  intro γ L L' w' h hw;have e:aX L [5,7]=aX L' [5,7]:=FD fun x hx=>h x (by simp at hx; rcases hx with rfl | rfl<;>decide);have hw':A_ w F b s a j x u cs (aX L [5,7]) w':=hw;rw [e] at hw';exact hw'
 case step =>
  intro i o ho L av w1 γ hdn ak hW hL hpre K Q hK
  match i,ho with
  | 0,ho =>
   injection ho with ho; subst ho;have b0:av.tmps.getD 0 undef=.pointer (some ⟨a,j,none⟩):=fM ak 0 (by kernel_rfl);clear ak;refine au ?_ (hK γ w1 (fun _ _=>rfl) (by show A_ w F b s a j x u cs (aX _ [5,7]) w1; rw [fC (by decide)]; exact hW)); go_simp; rfl
  | 1,ho =>
   injection ho with ho; subst ho;have b2:av.tmps.getD 2 undef=.pointer (some ⟨kk,0,none⟩):=fM ak 2 (by kernel_rfl);clear ak
   have n5:L 5=false:=by
    cases h:L 5 with
    | false=>rfl
    | true=>have hx:L 1=true:=hdn 5 _ rfl h ⟨1,.data⟩ (by simp) rfl; rw [hL] at hx; cases hx
   have hS:A_ w F b s a j x u cs 0 w1:=by
    have:=hW;simp only [aX,n5] at this;exact this
   have hq:ah w w1 []:=hS;have y:=(HKK.out.aj hq (by simp)).cell' (i:=0) rfl;clear hS hq;refine au ?_ (hK γ w1 (fun _ _=>rfl) (by show A_ w F b s a j x u cs (aX _ [5,7]) w1; rw [fC (by decide)]; exact hW)); go_simp; rfl
  | 2,ho =>
   injection ho with ho; subst ho;have b1:av.tmps.getD 1 undef=.pointer (some ⟨c,j,none⟩):=fM ak 1 (by kernel_rfl);clear ak;refine au ?_ (hK γ w1 (fun _ _=>rfl) (by show A_ w F b s a j x u cs (aX _ [5,7]) w1; rw [fC (by decide)]; exact hW)); go_simp; rfl
  | 3,ho =>
   injection ho with ho; subst ho;have s2:=aJ ak 7 2 (by kernel_rfl) (hpre ⟨2,.data⟩ (by simp) rfl);simp only [vI1] at s2;clear ak;refine au ?_ (hK γ w1 (fun _ _=>rfl) (by show A_ w F b s a j x u cs (aX _ [5,7]) w1; rw [fC (by decide)]; exact hW)); go_simp; rfl
  | 4,ho =>
   injection ho with ho; subst ho;have s3:=aJ ak 8 3 (by kernel_rfl) (hpre ⟨3,.data⟩ (by simp) rfl);simp only [vI1] at s3;clear ak
   have n5:L 5=false:=by
    cases h:L 5 with
    | false=>rfl
    | true=>have hx:L 4=true:=hdn 5 _ rfl h ⟨4,.data⟩ (by simp) rfl; rw [hL] at hx; cases hx
   have hS:A_ w F b s a j x u cs 0 w1:=by
    have:=hW;simp only [aX,n5] at this;exact this
   have hq:ah w w1 []:=hS;have y:=(Rj.out.aj hq (by simp)).cell' HX.out;clear hS hq;refine au ?_ (hK γ w1 (fun _ _=>rfl) (by show A_ w F b s a j x u cs (aX _ [5,7]) w1; rw [fC (by decide)]; exact hW)); go_simp; rfl
  | 5,ho =>
   injection ho with ho; subst ho;have s1:=aJ ak 6 1 (by kernel_rfl) (hpre ⟨1,.data⟩ (by simp) rfl);have s4:=aJ ak 9 4 (by kernel_rfl) (hpre ⟨4,.data⟩ (by simp) rfl);simp only [vI1] at s1 s4;clear ak
   have n7:L 7=false:=by
    cases h:L 7 with
    | false=>rfl
    | true=>have hx:L 5=true:=hdn 7 _ rfl h ⟨5,.data⟩ (by simp) rfl; rw [hL] at hx; cases hx
   have hS:A_ w F b s a j x u cs 0 w1:=by
    have:=hW;simp only [aX,hL] at this;exact this
   have hq:ah w w1 []:=hS;refine gU (f:=53) (args:=#[.pointer (some ⟨b.a,0,none⟩),.int .i64 (x:Int)]) ?_ (HG.out w1 hq) ?_
   . go_simp
   . rintro e w2 ⟨rfl,hc,F3,hs3,hk3⟩
     exact ⟨_,rfl,hK γ w2 (fun _ _ => rfl) (show A_ w F b s a j x u cs (aX (fun j => if j = 5 then true else L j) [5,7]) _ from by
      rw [show aX (fun j=>if j=5 then true else L j) [5,7]=1 by simp [aX,n7]]
      exact⟨(hq.more (by simp)).trans hc (fun k hk=>.inl hk),F3,fun k hk=>(hs3 k hk).imp_right (fun h=>Nat.le_trans hq.size h),hk3⟩)⟩
  | 6,ho =>
   injection ho with ho; subst ho;have s0:=aJ ak 5 0 (by kernel_rfl) (hpre ⟨0,.data⟩ (by simp) rfl);simp only [vI1] at s0;clear ak;refine au ?_ (hK γ w1 (fun _ _=>rfl) (by show A_ w F b s a j x u cs (aX _ [5,7]) w1; rw [fC (by decide)]; exact hW)); go_simp; rfl
  | 7,ho =>
   injection ho with ho; subst ho;have s6:=aJ ak 11 6 (by kernel_rfl) (hpre ⟨6,.data⟩ (by simp) rfl);have l5:=hpre ⟨5,.data⟩ (by simp) rfl;have s5:=aJ ak 10 5 (by kernel_rfl) l5;simp only [vI1] at s6 s5;clear ak;have l5:L 5=true:=hpre ⟨5,.data⟩ (by simp) rfl
   have hS:A_ w F b s a j x u cs 1 w1:=by
    have:=hW;simp only [aX,l5,hL] at this;exact this
   obtain⟨hc1,F3,hs3,hk3⟩:=hS;have hb:=HA.out.aj hc1 HN.out.1;obtain⟨y,hy⟩:∃ y,cs[j]?=some y:=⟨cs[j]'(by have:=HCL.out; omega),by simp⟩
   have z:=hb.cell' hy;have f:=hb.frozen j;have hbl:=hb.lt;have hcs:ah w1 (w1.setCell ⟨a,j,none⟩ (.int .i64 (u:Int))) [a]:=(ah.refl w1 [a]).setCell _ _ (.inl (List.mem_singleton.2 rfl))
   have aqQ:a∉F3:=fun hm=>by
    rcases hs3 a hm with h | h
    . exact HN.out.1 h
    . have:=HA.out.lt; omega
   have hW2:A_ w F b s a j x u cs (aX (fun j=>if j=7 then true else L j) [5,7]) (w1.setCell ⟨a,j,none⟩ (.int .i64 (u:Int))):=by
    rw [show aX (fun j=>if j=7 then true else L j) [5,7]=2 by simp [aX,l5]];exact⟨(hc1.more (fun k hk=>.inl (List.mem_cons_of_mem _ hk))).trans hcs (fun k hk=>.inl (by simp at hk; simp [hk])),⟨F3,hs3,hk3.aj hcs (fun k hk hm=>aqQ (by simp at hm; exact hm▸hk)) (fun k hk=>by have:=HQ.out; simp at hk; omega)⟩,hb.aK j _⟩
   clear hcs aqQ hb hy hk3 hs3 hc1;refine uf (w':=w1.setCell ⟨a,j,none⟩ (.int .i64 (u:Int))) ?_ (hK γ _ (fun _ _=>rfl) hW2);go_simp
  | _+8,ho=>cases ho
 case fin =>
 intro γ w9 hW;have hS:A_ w F b s a j x u cs 2 w9:=hW;obtain⟨h1,h2,h3⟩:=hS;have H1:=hide h1;have H2:=hide h2;have H3:=hide h3;clear hW h1 h2 h3;rw [jc,gy,iM];simp only [List.map_cons,List.map_nil];go_wp2;refine bodyPost_end (results_none rfl _ _ _) rfl ⟨⟨_,rfl⟩,H1.out,H2.out,H3.out⟩
theorem WV{w:World}{b:MP}{s:KS}{F:List Nat}(h:KR w b s F)(a c kk j x y:Nat)(cs ds:List Value)(ha:aC w a 102 cs)(hc:aC w c 102 ds)(hk:aC w kk 96 [.pointer (some ⟨b.a,0,none⟩)])(hx:cs[j]?=some (.int .i64 (x:Int)))(hy:ds[j]?=some (.int .i64 (y:Int)))(hxl:x<=2048)(hyl:y<=2048)(hn:s.nc<=799990) :
 Calls Tryz.prog 56 #[.pointer (some ⟨a,j,none⟩),.pointer (some ⟨c,j,none⟩),.pointer (some ⟨kk,0,none⟩)] w fun e w'=>(∃ v,e=.returned v)/\ah w w' F/\∃ F',Sub F' F w/\KR w' b (s.set x y) F':=by
 have hm:=ES (h.bJ (ah.refl w []).drew) x y hxl hyl hn;have z1:=ha.cell' hx;have z2:=hc.cell' hy;have z3:=hk.cell' (i:=0) rfl;clear h ha hc hk hx hy;go_enter Tryz.func56,Tryz.ntmps56
 go_wp2_with fail
 go_still_tail 7,(by kernel_rfl)
 change wpList _ _ _ _ _ w.drew;go_wp2_with fail
 go_at_call 57;refine hm.mono ?_;rintro e w2 ⟨rfl,hc,F3,hs3,hk3⟩;have HC:=hide (((ah.refl w F).drew).trans hc (fun k hk=>.inl hk));have HS:=hide hs3;have HK:=hide hk3;clear hm hc hs3 hk3;go_wp2;refine bodyPost_end (results_none rfl _ _ _) rfl ⟨⟨_,rfl⟩,HC.out,F3,HS.out,HK.out⟩
end

section
open Go Go.RowKit Go.Deep Go.Maps Ab
attribute [local go_sem] Oper.semAt_some
def lg:List Nat->List Int->List Int->List Int
 | a::aS,x::xs,ws=>lg aS xs (ws.set a x)
 | _,_,ws=>ws
theorem RI:∀(aS:List Nat) (xs ws:List Int),(lg aS xs ws).length=ws.length
 | [],_,_=>rfl
 | _::_,[],_=>rfl
 | a::aS,x::xs,ws=>by
  show(lg aS xs (ws.set a x)).length=_;rw [RI aS xs,List.length_set]
theorem Ov:∀(aS:List Nat) (xs ws:List Int) (a:Nat) (x:Int),aS.length=xs.length->lg (aS++[a]) (xs++[x]) ws=(lg aS xs ws).set a x
 | [],[],ws,a,x,_=>rfl
 | [],_::_,_,_,_,h=>by simp at h
 | _::_,[],_,_,_,h=>by simp at h
 | b::aS,y::xs,ws,a,x,h=>Ov aS xs (ws.set b y) a x (by simpa using h)
theorem w_.keep {w w':World} {v:Value} {code data:List Int} {sec:List Bool} {ins outs:List Nat} (h:w_ w v code data sec ins outs) (hc:ah w w' []):w_ w' v code data sec ins outs:=by
 obtain⟨c,d,se,i,o,rfl,h1,h2,h3,h4,h5⟩:=h;exact⟨c,d,se,i,o,rfl,h1.keep hc,h2.keep hc,h3.keep hc,h4.keep hc,h5.keep hc⟩
theorem zN{w:World}{v:Value}{xs:List Value}(h:Sl w v xs):∃ A c,v=.slice A xs.length c/\∀(j:Nat) (u:Value),xs[j]?=some u->∃ b off,A=some ⟨b,off,none⟩/\w.cell? ⟨b,off+j,none⟩=some u/\b<w.heap.size:=by
 obtain⟨A,c,rfl,_⟩:=id h;exact⟨A,c,rfl,fun j u hj=>h.at_ hj⟩
theorem ints_at{l:List Nat}{j a:Nat}(h:l[j]?=some a):(ints l)[j]?=some (.int .i64 (a:Int)):=by simp [ints,h]
theorem sU(l:List Nat):(ints l).length=l.length:=List.length_map ..
theorem sV(l:List Int):(bG l).length=l.length:=List.length_map ..
theorem ano {w:World} {base base' e size n:Nat} {v:Value} {xs:List Value} (h:w.ownsRow base e size v n xs) (hb:base'<=base):w.ownsRow base' e size v n xs:=by
 refine⟨h.1,?_⟩;rcases h.2 with hn | ⟨g,cap,cur,rfl,hg,rest⟩
 . exact .inl hn
 . exact .inr ⟨g,cap,cur,rfl,Nat.le_trans hb hg,rest⟩
section
variable {w0 w:World} {c:Nat} {words:List Nat} {s:CS} {ws:List Int} {F:List Nat}
end
end

section
open Go Go.RowKit Go.Deep Go.Maps Ab
theorem anp:(Tryz.prog.info? 5).map (fun i=>(i.zero,i.size,i.bytes))=some (some (.int .u8 0),1,1):=by kernel_rfl
theorem aje(n:Nat)(w:World)(hl:n<=500000):(Instr.makeSlice 62 (.int .i64 n) (.int .i64 n)).run Tryz.prog w=.ok (.slice (some ⟨w.heap.size,0,none⟩) n n) (w.alloc (.cells (zeros (.int .i32 0) n).toArray 21)):=by
 obtain⟨i0,hi,hz0,hz1,hz2⟩:=info_parts wJ;have h:=run_makeSlice (P:=Tryz.prog) w 62 21 i0 (.int .i32 0) Tryz.underlying62 hi hz0 .i64 .i64 n n (by omega) (by omega) (by rw [hz1]; omega) (by rw [hz2]; omega) (by omega);rw [h,hz1,<- lW];simp [Value.cells]
def lF(l:List Nat)(j:Nat):List Value:=((l.take j).map fun n:Nat=>Value.int .i32 (n:Int))++zeros (.int .i32 0) (l.length - j)
theorem af8(l:List Nat)(j:Nat)(h:j<=l.length):(lF l j).length=l.length:=by simp [lF,zeros]; omega
theorem af9(l:List Nat)(j x:Nat)(h:l[j]?=some x):(lF l j).set j (.int .i32 (x:Int))=lF l (j+1):=by
 obtain⟨hj,hx⟩:=List.getElem?_eq_some_iff.1 h;unfold lF;have hl:((l.take j).map fun n:Nat=>Value.int .i32 (n:Int)).length=j:=by simp; omega
 rw [List.set_append_right _ _ (by omega),hl,Nat.sub_self,List.take_add_one,h];obtain⟨m,hm⟩:∃ m,l.length - j=m+1:=⟨l.length - j - 1,by omega⟩
 rw [hm,show l.length - (j+1)=m by omega];show _++(Value.int .i32 0::zeros _ m).set 0 _=_;simp
theorem af_(l:List Nat):lF l l.length=l.map fun n:Nat=>Value.int .i32 (n:Int):=by simp [lF,zeros]
theorem anq(n:Nat)(w:World)(hl:n<=500000):(Instr.makeSlice 29 (.int .i64 n) (.int .i64 n)).run Tryz.prog w=.ok (.slice (some ⟨w.heap.size,0,none⟩) n n) (w.alloc (.cells (zeros (.int .u8 0) n).toArray 5)):=by
 obtain⟨i0,hi,hz0,hz1,hz2⟩:=info_parts anp;have h:=run_makeSlice (P:=Tryz.prog) w 29 5 i0 (.int .u8 0) Tryz.underlying29 hi hz0 .i64 .i64 n n (by omega) (by omega) (by rw [hz1]; omega) (by rw [hz2]; omega) (by omega);rw [h,hz1,<- lW];simp [Value.cells]
def qw(l:List Nat)(j:Nat):List Value:=((l.take j).map fun n:Nat=>Value.int .u8 (n:Int))++zeros (.int .u8 0) (l.length - j)
theorem aga(l:List Nat)(j:Nat)(h:j<=l.length):(qw l j).length=l.length:=by simp [qw,zeros]; omega
theorem agb(l:List Nat)(j x:Nat)(h:l[j]?=some x):(qw l j).set j (.int .u8 (x:Int))=qw l (j+1):=by
 obtain⟨hj,hx⟩:=List.getElem?_eq_some_iff.1 h;unfold qw;have hl:((l.take j).map fun n:Nat=>Value.int .u8 (n:Int)).length=j:=by simp; omega
 rw [List.set_append_right _ _ (by omega),hl,Nat.sub_self,List.take_add_one,h];obtain⟨m,hm⟩:∃ m,l.length - j=m+1:=⟨l.length - j - 1,by omega⟩
 rw [hm,show l.length - (j+1)=m by omega];show _++(Value.int .u8 0::zeros _ m).set 0 _=_;simp
theorem agc(l:List Nat):qw l l.length=l.map fun n:Nat=>Value.int .u8 (n:Int):=by simp [qw,zeros]
end

section
open Go Go.RowKit Go.Deep Go.Maps Ab
attribute [local go_sem] Oper.semAt_some
theorem W_{w:World}{v:Value}{l:List Nat}(h:Sl w v (bU l))(hb:∀ x∈l,x<256)(hl:l.length<=10000) :
 Calls Tryz.prog 35 #[v] w fun e w'=>∃ u,e=.returned u/\ah w w' []/\Sl w' u (bG (l.map fun n:Nat=>(n:Int)))/\∀ A n c,u=.slice (some A) n c->w.heap.size<=A.block:=by
 obtain⟨A,c,rfl,hx⟩:=zN h;have hln:(bU l).length=l.length:=by simp [bU]
 rw [hln];have hm1:=aje l.length w (by omega);have HX:=hide hx;have HB:=hide hb;have hf0:lF l 0=zeros (.int .i32 0) l.length:=by simp [lF]
 have hbl:=aC.new w 21 (zeros (.int .i32 0) l.length);rw [<- hf0] at hbl;have RJ:=hide hbl;have BQ:=hide ((ah.refl w []).alloc (.cells (zeros (.int .i32 0) l.length).toArray 21));rw [<- hf0] at hm1 BQ;clear h hx hb hf0 hbl hln;go_enter Tryz.func35,Tryz.ntmps35
 go_wp2_with fail
 clear hm1;generalize w.alloc (.cells (lF l 0).toArray 21)=W2 at *;generalize hM:w.heap.size=M at *;have HMM:=hide hM;go_loopw [4,5,11] (fun _ _ i wr=>∃ j:Nat,j<=l.length/\i=.int .i64 j/\Hid (ah w wr [])/\Hid (aC wr M 21 (lF l j))) (fun _ _ i _=>l.length - (intOf i).toNat)
 case atStart=>exact⟨0,Nat.zero_le _,rfl,BQ,RJ⟩
 case round =>
  clear BQ RJ;obtain⟨j,hj,rfl,HC,HK⟩:=hrel;by_cases hlt:j<l.length
  . obtain⟨x,hjx⟩:∃ x,l[j]?=some x:=⟨l[j],by simp [hlt]⟩
    obtain⟨b,o,rfl,hcx,hbb⟩:=HX.out j _ (show(bU l)[j]?=some (.int .u8 (x:Int)) by simp [bU,hjx]);have c1:=HC.out.cell hcx (by simp);have hx256:=HB.out x (List.mem_of_getElem? hjx);have hwr:IntKind.i32.wrap (x:Int)=(x:Int):=by rw [IntKind.wrap_i32]; omega
    obtain⟨y,hy⟩:∃ y,(lF l j)[j]?=some y:=⟨(lF l j)[j]'(by rw [af8 l j hj]; exact hlt),by simp⟩
    have z:=HK.out.cell' hy;have f:=HK.out.frozen j;have hbl:=HK.out.lt;have hset:=af9 l j x hjx;have HNX:=hide (show aC (wr.setCell ⟨M,j,none⟩ (.int .i32 (x:Int))) M 21 (lF l (j+1)) from hset▸HK.out.aK j (.int .i32 (x:Int)));have HCS:=hide (show ah w (wr.setCell ⟨M,j,none⟩ (.int .i32 (x:Int))) [] from HC.out.trans ((ah.refl wr [M]).setCell _ _ (.inl (List.mem_singleton.2 rfl))) (fun k hk=>.inr (by simp at hk; omega)));clear hcx hjx hy hset;go_wp2;go_roundw
    case rel=>exact⟨j+1,by omega,by go_num,HCS,HNX⟩
    case measure=>simp [intOf]; omega
  . have hjl:j=l.length:=by omega
    subst hjl;rw [af_] at HK
    have hin:Sl wr (.slice (some ⟨M,0,none⟩) l.length l.length) (bG (l.map fun n:Nat=>(n:Int))):=by
     have:=Sl.blk' (n:=l.length) (c:=l.length) HK.out (by simp) (Nat.le_refl _)
     simpa [bG,List.map_map,Function.comp_def] using this
    have WT:=hide hin;clear hin;go_wp2;go_ret;exact⟨_,rfl,HC.out,WT.out,fun A n c h=>by injection h with h; injection h with h; subst h; exact Nat.le_of_eq HMM.out⟩
theorem Xa{w:World}{v:Value}{l:List Nat}(h:Sl w v (bG (l.map fun n:Nat=>(n:Int))))(hb:∀ x∈l,x<256)(hl:l.length<=10000) :
 Calls Tryz.prog 33 #[v] w fun e w'=>∃ u,e=.returned u/\ah w w' []/\Sl w' u (bU l)/\∀ A n c,u=.slice (some A) n c->w.heap.size<=A.block:=by
 obtain⟨A,c,rfl,hx⟩:=zN h;have hln:(bG (l.map fun n:Nat=>(n:Int))).length=l.length:=by simp [bG]
 rw [hln];have hm1:=anq l.length w (by omega);have HX:=hide hx;have HB:=hide hb;have hf0:qw l 0=zeros (.int .u8 0) l.length:=by simp [qw]
 have hbl:=aC.new w 5 (zeros (.int .u8 0) l.length);rw [<- hf0] at hbl;have RJ:=hide hbl;have BQ:=hide ((ah.refl w []).alloc (.cells (zeros (.int .u8 0) l.length).toArray 5));rw [<- hf0] at hm1 BQ;clear h hx hb hf0 hbl hln;go_enter Tryz.func33,Tryz.ntmps33
 go_wp2_with fail
 clear hm1;generalize w.alloc (.cells (qw l 0).toArray 5)=W2 at *;generalize hM:w.heap.size=M at *;have HMM:=hide hM;go_loopw [4,5,11] (fun _ _ i wr=>∃ j:Nat,j<=l.length/\i=.int .i64 j/\Hid (ah w wr [])/\Hid (aC wr M 5 (qw l j))) (fun _ _ i _=>l.length - (intOf i).toNat)
 case atStart=>exact⟨0,Nat.zero_le _,rfl,BQ,RJ⟩
 case round =>
  clear BQ RJ;obtain⟨j,hj,rfl,HC,HK⟩:=hrel;by_cases hlt:j<l.length
  . obtain⟨x,hjx⟩:∃ x,l[j]?=some x:=⟨l[j],by simp [hlt]⟩
    obtain⟨b,o,rfl,hcx,hbb⟩:=HX.out j _ (show(bG (l.map fun n:Nat=>(n:Int)))[j]?=some (.int .i32 (x:Int)) by simp [bG,hjx]);have c1:=HC.out.cell hcx (by simp);have hx256:=HB.out x (List.mem_of_getElem? hjx);have hwr:IntKind.u8.wrap (x:Int)=(x:Int):=by rw [IntKind.wrap_u8]; omega
    obtain⟨y,hy⟩:∃ y,(qw l j)[j]?=some y:=⟨(qw l j)[j]'(by rw [aga l j hj]; exact hlt),by simp⟩
    have z:=HK.out.cell' hy;have f:=HK.out.frozen j;have hbl:=HK.out.lt;have hset:=agb l j x hjx;have HNX:=hide (show aC (wr.setCell ⟨M,j,none⟩ (.int .u8 (x:Int))) M 5 (qw l (j+1)) from hset▸HK.out.aK j (.int .u8 (x:Int)));have HCS:=hide (show ah w (wr.setCell ⟨M,j,none⟩ (.int .u8 (x:Int))) [] from HC.out.trans ((ah.refl wr [M]).setCell _ _ (.inl (List.mem_singleton.2 rfl))) (fun k hk=>.inr (by simp at hk; omega)));clear hcx hjx hy hset;go_wp2;go_roundw
    case rel=>exact⟨j+1,by omega,by go_num,HCS,HNX⟩
    case measure=>simp [intOf]; omega
  . have hjl:j=l.length:=by omega
    subst hjl;rw [agc] at HK
    have hin:Sl wr (.slice (some ⟨M,0,none⟩) l.length l.length) (bU l):=by
     have:=Sl.blk' (n:=l.length) (c:=l.length) HK.out (by simp) (Nat.le_refl _)
     simpa [bU,List.map_map,Function.comp_def] using this
    have WT:=hide hin;clear hin;go_wp2;go_ret;exact⟨_,rfl,HC.out,WT.out,fun A n c h=>by injection h with h; injection h with h; subst h; exact Nat.le_of_eq HMM.out⟩
def vI:Value->List Nat
 | .agg cs=>cs.toList.filterMap Xi.dU
 | _=>[]
theorem O5:∀(aS bS:List Nat) (xs ws:List Int),xs.length<=aS.length->lg (aS++bS) xs ws=lg aS xs ws
 | [],bS,[],ws,_=>by cases bS<;>rfl
 | [],_,_::_,_,h=>by simp at h
 | _::_,_,[],_,_=>rfl
 | a::aS,bS,x::xs,ws,h=>O5 aS bS xs (ws.set a x) (by simpa using h)
section
variable {w:World} {c:Nat} {words:List Nat} {s:CS} {ws:List Int} {F:List Nat}
theorem Yb(h:fK w c words s ws F)(hg:oh w){v vin:Value}{code data:List Int}{sec:List Bool}{ins outs:List Nat}{xs:List Int}(him:w_ w v code data sec ins outs)(yF:∀ k∈vI v,k∉F)(hin:Sl w vin (bG xs))(hfin:∀ k,Xi.dU vin=some k->k∉F)(hl:xs.length<=ins.length)
 (hins:∀ a∈ins,a<ws.length) (hil:ins.length<=2048) (hol:outs.length<=2048) {mem:List Wd} (hm:mem.map (·.v)=lg ins xs ws) {N:Nat} {m':Ma} (hr:Ab.Reach (Nx words) N (vN mem) m') (hst:m'.st=1) (hwl:words.length<=60000) (hN:N<=1048000)
 {vals:List Int} (hvl:vals.length=outs.length) (hv:∀(j a:Nat) (x:Int),outs[j]?=some a->vals[j]?=some x->(oz m')[a]?=some x) :
 Calls Tryz.prog 34 #[.pointer (some ⟨c,0,none⟩),v,vin] w fun e w'=>∃ u F',e=.returned u/\ah w w' F/\Sub F' F w/\fK w' c words (jo m') (oz m') F'/\w'.ownsRow w.heap.size 21 1 u outs.length (bG vals):=by
 obtain⟨i0,hi0,hz0,hz1,hz2⟩:=info_parts wJ;obtain⟨vc,vd,vs,vi,vo,rfl,g1,g2,g3,g4,g5⟩:=him;obtain⟨Ac,cc,rfl,_⟩:=id g1;obtain⟨Ad,cd,rfl,_⟩:=id g2;obtain⟨As,cs,rfl,_⟩:=id g3;obtain⟨Ai,ci,rfl,hi⟩:=zN g4;obtain⟨Ao,co,rfl,ho⟩:=zN g5;obtain⟨Ax,cx,rfl,hx⟩:=zN hin;have HFI:=hide (show ∀ b off,Ai=some ⟨b,off,none⟩->b∉F from fun b off e=>yF b (by subst e; simp [vI,Xi.dU]));have HFO:=hide (show ∀ b off,Ao=some ⟨b,off,none⟩->b∉F from fun b off e=>yF b (by subst e; simp [vI,Xi.dU]));have HFX:=hide (show ∀ b off,Ax=some ⟨b,off,none⟩->b∉F from fun b off e=>hfin b (by subst e; rfl));have HL:=hide hl;simp only [sV,sU] at *;clear hl;have H:=hide h;have HI:=hide hi;have HO:=hide ho;have HX:=hide hx;have axt:=hide hins;have HV:=hide hv;have HM:=hide hm;have HR:=hide hr;have HQ:=hide hg.size;clear h yF hfin hi ho hx hins hv hm hr g1 g2 g3 g4 g5 hin hg;go_enter Tryz.func34,Tryz.ntmps34
 have hq:=aC.new w 66 [.slice Ac (jH code).length cc,.slice Ad data.length cd,.slice As (bools sec).length cs,.slice Ai ins.length ci,.slice Ao outs.length co];have HQI:=hide hq;have hHF:=fun k hk=>H.out.lt k hk;have qM:=hide hHF;clear hq hHF;go_wp2_with fail
 go_loopw [7,8,17] (fun _ _ i wr=>∃ j:Nat,j<=ins.length/\i=.int .i64 j/\Hid (ah w wr F)/\Hid (fK wr c words s (lg (ins.take j) (xs.take j) ws) F)/\Hid (aC wr w.heap.size 66 [.slice Ac (jH code).length cc,.slice Ad data.length cd,.slice As (bools sec).length cs,.slice Ai ins.length ci,.slice Ao outs.length co])) (fun _ _ i _=>ins.length - (intOf i).toNat)
 case atStart=>exact⟨0,Nat.zero_le _,rfl,hide ((ah.refl w F).alloc _),hide (by simp only [List.take_zero]; exact H.out.bJ ((ah.refl w []).alloc _)),HQI⟩
 case round =>
  obtain⟨j,hj,rfl,HC,HK,HB⟩:=hrel;by_cases hlt:j<ins.length
  . obtain⟨a,hja⟩:∃ a,ins[j]?=some a:=⟨ins[j],by simp [hlt]⟩
    by_cases hlx:j<xs.length
    . obtain⟨x,hjx⟩:∃ x,xs[j]?=some x:=⟨xs[j]'hlx,by simp⟩
      obtain⟨bi,oi,rfl,hci,hbi⟩:=HI.out j _ (ints_at hja);obtain⟨bx,ox,rfl,hcx,hbx⟩:=HX.out j _ (show(bG xs)[j]?=some (.int .i32 x) by simp [bG,hjx]);have ci:=HC.out.cell hci (HFI.out _ _ rfl);have cx':=HC.out.cell hcx (HFX.out _ _ rfl);have hpk:=Dn HK.out a x (by rw [RI]; exact axt.out a (List.mem_of_getElem? hja))
      have hset:(lg (ins.take j) (xs.take j) ws).set a x=lg (ins.take (j+1)) (xs.take (j+1)) ws:=by
       rw [List.take_add_one,hja,List.take_add_one,hjx];exact(Ov _ _ _ a x (by simp; omega)).symm
      rw [hset] at hpk;clear hset hci hcx hja hjx;go_wp2_with fail
      go_at_call 26;refine hpk.mono ?_;rintro e w2 ⟨rfl,hc2,hk2⟩;have HC2:=hide hc2;have jY:=hide hk2;clear hc2 hk2 hpk;go_wp2;go_roundw
      case rel=>exact⟨j+1,by omega,by go_num,hide (HC.out.trans HC2.out (fun k hk=>.inl hk)),jY,hide (HB.out.aj HC2.out (fun hm=>by have:=qM.out _ hm; omega))⟩
      case measure=>simp [intOf]; omega
    . have hset : lg (ins.take j) (xs.take j) ws=lg (ins.take (j+1)) (xs.take (j+1)) ws := by
       rw [List.take_of_length_le (show xs.length<=j by omega),List.take_of_length_le (show xs.length<=j+1 by omega),List.take_add_one];exact(O5 _ _ xs ws (by simp; omega)).symm
      obtain⟨bi,oi,rfl,hci,hbi⟩:=HI.out j _ (ints_at hja);have ci:=HC.out.cell hci (HFI.out _ _ rfl);have HK':=hide (hset▸HK.out);clear hset hci hja;go_wp2;go_roundw
      case rel=>exact⟨j+1,by omega,by go_num,HC,HK',HB⟩
      case measure=>simp [intOf]; omega
  . have hjl:j=ins.length:=by omega
    subst hjl;rw [List.take_length,List.take_of_length_le HL.out] at HK;have hbg:=Ba HK.out;have bZ:=HC;have HB1:=HB;go_wp2_with fail
    go_at_call 27;refine hbg.mono ?_;rintro e w2 ⟨rfl,hc2,F2,hs2,hk2⟩;have hc12:ah w w2 F:=HC.out.trans hc2 (fun k hk=>.inl hk);have hb2:=HB.out.aj hc2 (fun hm=>by have:=qM.out _ hm; omega);have asJ:Sub F2 F w:=fun k hk=>(hs2 k hk).imp_right (fun h=>Nat.le_trans HC.out.size h);have hq2:w.heap.size∉F2:=jP hs2 (fun hm=>by have:=qM.out _ hm; omega) HB.out.lt;have hrn:=acQ hk2 (by have:=HQ.out; have:=hc12.size; omega) HM.out HR.out hst hwl hN;have HC2:=hide hc12;have HB2:=hide hb2;have HS2:=hide asJ;have ZL:=hide hq2;clear hc2 hs2 hk2 hbg hc12 hb2 asJ hq2;go_wp2_with fail
    go_at_call 28;refine hrn.mono ?_;rintro e w3 ⟨⟨n,rfl⟩,hc3,F3,hs3,hk3⟩;have jC:Hid (ah w w3 F):=hide (HC2.out.trans hc3 (fun k hk=>HS2.out k hk));have HB3:=hide (HB2.out.aj hc3 ZL.out)
    have U6:Hid (Sub F3 F w):=hide (fun k hk=>by
     rcases hs3 k hk with h | h
     . exact HS2.out k h
     . exact .inr (Nat.le_trans HC2.out.size h))
    have Gp:=hide hk3;clear hc3 hs3 hk3 hrn;have y4:=HB3.out.cell' (i:=4) rfl;go_wp2_with fail
    go_loopw [9,11,12,13,41] (fun v _ _ _ i wr=>∃ j:Nat,j<=outs.length/\i=.int .i64 j/\Hid (ah w3 wr [])/\Hid (wr.ownsRow w3.heap.size 21 1 v j (bG (vals.take j)))) (fun _ _ _ _ i _=>outs.length - (intOf i).toNat)
    case atStart=>exact⟨0,Nat.zero_le _,rfl,hide (ah.refl _ _),hide (World.ownsRow_nil _ _ _ _)⟩
    case round =>
     obtain⟨j,hj,rfl,HR3,J4⟩:=hrel;by_cases hlt:j<outs.length
     . obtain⟨a,hja⟩:∃ a,outs[j]?=some a:=⟨outs[j],by simp [hlt]⟩
       obtain⟨x,hjx⟩:∃ x,vals[j]?=some x:=⟨vals[j]'(by omega),by simp⟩
       obtain⟨bo,oo,rfl,hco,hbo⟩:=HO.out j _ (ints_at hja);have co':=HR3.out.cell (jC.out.cell hco (HFO.out _ _ rfl)) (by simp);have hld:=Y7 (Gp.out.bJ HR3.out) a x (HV.out j a x hja hjx)
       have htk:bG (vals.take (j+1))=bG (vals.take j)++[.int .i32 x]:=by
        rw [List.take_add_one,hjx];simp [bG]
       have HTK:=hide htk;obtain⟨V,vc,rfl⟩:=bK J4.out;have hzw:w.heap.size<=w3.heap.size:=jC.out.size;have HZW:=hide hzw;clear hja hjx hco htk hzw;go_wp2_with fail
       go_at_call 29;refine hld.mono ?_;rintro e w4 ⟨rfl,hc4⟩;have jB:=hide (HR3.out.trans hc4 (by simp));have qc:=hide (aH J4.out hc4 (by simp));clear hc4 hld;go_wp2_with (at_builtin; refine wpList_append_own _ rfl _ _ 62 rfl w3.heap.size 21 i0 (.int .i32 0) 1 4 Tryz.underlying62 hi0 hz0 hz1 hz2 rfl (by decide) _ j _ rfl (qc.out.alloc _) ⟨w4.heap.size,0,none⟩ 1 1 [.int .i32 x] rfl rfl ?c1 ?c2 ?c3 ?c4 ?c5 ?_)
       case c1 =>
        intro j u hj
        match j,hj with
        | 0,hj=>simp at hj; subst hj; simp [Addr.add]
       case c2=>intro u hu; simp at hu; subst hu; rfl
       case c3=>unfold maxLen; omega
       case c4=>omega
       case c5=>have:=jB.out.size; have:=HZW.out; simp; omega
       intro v' w5 hown' hgrow _;have HG:Hid (ah w3 w5 []):=hide ((jB.out.alloc _).trans (D':=(Value.slice V j vc).ownBlock.toList) (ah.fZ hgrow (fun k hk=>.inl (by simp [hk]))) (fun k hk=>.inr (qc.out.lt k (by simpa using hk)).1));have QZ:=hide hown';obtain⟨A6,c6,hv'⟩:=bK hown';clear hown' hgrow;go_wp2;go_roundw
       case rel=>exact⟨j+1,by omega,by go_num,HG,hide (by rw [HTK.out]; exact QZ.out)⟩
       case measure=>simp [intOf]; omega
     . have hjl:j=outs.length:=by omega
       subst hjl;go_wp2;go_ret;have ho:=J4.out;rw [List.take_of_length_le (by omega)] at ho;exact⟨_,F3,rfl,jC.out.trans HR3.out (by simp),U6.out,Gp.out.bJ HR3.out,ano ho jC.out.size⟩
end
end

section
open Go Go.RowKit Go.Deep Go.Maps Ab
attribute [local go_sem] Oper.semAt_some
structure Way (words:List Nat) (data:List Int) (ins outs:List Nat) (xs vals:List Int) (ks:List Mk):Prop where
 enc:(words.map iI).map encI=words.map fun n:Nat=>(n:Int)
 chk:∀ i∈words.map iI,jV i=0
 wl:words.length<=16384
 dl:data.length<=2048
 il:ins.length<=2048
 ol:outs.length<=2048
 xl:xs.length=ins.length
 ay7:∀ a∈ins,a<data.length
 vl:vals.length=outs.length
 k0:0<ks.length
 kl:ks.length<=1048576
 run:∃ mem N m',mem.map (·.v)=lg ins xs data/\Ab.Reach (Nx words) N (vN mem) m'/\m'.st=1/\N<=1048000/\m'.ks=ks/\(∀(j a:Nat) (x:Int),outs[j]?=some a->vals[j]?=some x->(oz m')[a]?=some x)
section
variable {w:World} {words:List Nat} {data:List Int} {ins outs:List Nat} {xs vals:List Int} {ks:List Mk}
end
end

section
open Go Go.RowKit Go.Deep Go.Maps Ab
attribute [local go_sem] Oper.semAt_some
section
variable {w:World} {b:Nat} {v:Value} {ks:List Mk}
