/- Texts of this claim, side by side. -/
import Derived.Test.YtjmojlhnmkjdkaaGreatDoorImgFA
import Derived.Test.YtjmojlhnmkjdkaaGreatDoorImgFB
import Derived.Test.YtjmojlhnmkjdkaaGreatDoorImgFD
import Derived.Test.YtjmojlhnmkjdkaaGreatDoorImgFE
import Derived.Test.YtjmojlhnmkjdkaaGreatDoorImgFC
import Derived.Test.YtjmojlhnmkjdkaaGreatDoorCoreT
set_option linter.unusedVariables false
set_option maxRecDepth 100000
set_option maxHeartbeats 8000000
namespace Go.Proofs.YtjmojlhnmkjdkaaGreatDoor
section
open Go Go.RowKit Ab Xi
set_option maxRecDepth 100000
def zC (b:MP):KS:=Z7
theorem Jq {r:Option (AV × G × List Xi.Ev)} {ρ ρ':List Nat} {ps ps':List Addr} {s s':KS} {t:Bool} {os:List KE} (h:acB r ρ ps s=some (t,os,ρ',ps',s')):∃ v g δ xs,r=some (v,g,δ)/\wX g v=some (t,xs)/\Fe ρ xs=some os/\ρ=ρ'/\ps=ps'/\s=s':=by
 unfold acB at h
 cases r with
 | none=>cases h
 | some q =>
  obtain ⟨v,g,δ⟩:=q;simp only [] at h
  cases he:wX g v with
  | none=>rw [he] at h; cases h
  | some q3 =>
   obtain ⟨t',xs⟩:=q3;rw [he] at h;simp only [] at h
   cases hx:Fe ρ xs with
   | none=>rw [hx] at h; cases h
   | some os' =>
    rw [hx] at h;have e:=Option.some.inj h;have e1:=congrArg Prod.fst e;have e2:=congrArg (fun q=>q.2.1) e;have e3:=congrArg (fun q=>q.2.2.1) e;have e4:=congrArg (fun q=>q.2.2.2.1) e;have e5:=congrArg (fun q=>q.2.2.2.2) e;exact ⟨v,g,δ,xs,rfl,by rw [he]; exact congrArg some (Prod.ext e1 rfl),by rw [hx]; exact congrArg some e2,e3,e4,e5⟩
theorem ap8:PY=acz ++ PY.drop 93:=by decide +kernel
theorem ap9:rhoC=PY ++ rhoC.drop 99:=by decide +kernel
theorem aix:rhoC=[0,1,2,3,4,5,6,7,8,9,10,11,12,13,14,15,16,17,18,19,27,28,29,30,31,32,33] ++ rhoC.drop 27:=by decide +kernel
theorem amI:Fp=NW ++ Fp.drop 176:=by decide +kernel
theorem amJ:Cb=Fp ++ Cb.drop 340:=by decide +kernel
theorem aiy:Cb=[27,28,29,30,63,66,69,72,75,78,81,84,87] ++ Cb.drop 13:=by decide +kernel
theorem aiz (b:MP) (H:Nat->Option Obj) (X:List Nat) (ρF:Nat->Value) (h:lM Cb ρF):gU (qO b H X) ρF (dF (rS b)) stA stB:=by
 have hB:lM Fp ρF:=by rw [amJ] at h; exact h.of_append
 have hA:lM NW ρF:=by
  have h':=hB;rw [amI] at h';exact h'.of_append
 have e:dF (rS b)=(dF (rS b)).take 141 ++ (((dF (rS b)).drop 141).take 153 ++ ((dF (rS b)).drop 141).drop 153):=by rw [List.take_append_drop,List.take_append_drop]
 rw [e];refine (mP (M:=qO b H X)).2 ⟨acw,?_,?_⟩
 . obtain ⟨ρ',ps',s',h1,_,_,h4⟩:=nT (b:=b) (G:=H) (X:=X) 5000 (ati b)
   have q:=Option.some.inj h1;have q1:ρ'=NW:=congrArg Prod.fst q;have q2:ps'=List.replicate 165 ⟨b.a,0,none⟩:=congrArg (fun q=>q.2.1) q;have q3:s'=acw:=congrArg (fun q=>q.2.2) q;subst q1 q2 q3;exact h4 ρF (fun p hp=>(List.mem_replicate.1 hp).2) hA
 refine (mP (M:=qO b H X)).2 ⟨acy,?_,?_⟩
 . obtain ⟨ρ',ps',s',h1,_,_,h4⟩:=nT (b:=b) (G:=H) (X:=X) 5000 (atj b)
   have q:=Option.some.inj h1;have q1:ρ'=Fp:=congrArg Prod.fst q;have q2:ps'=List.replicate 165 ⟨b.a,0,none⟩:=congrArg (fun q=>q.2.1) q;have q3:s'=acy:=congrArg (fun q=>q.2.2) q;subst q1 q2 q3;exact h4 ρF (fun p hp=>(List.mem_replicate.1 hp).2) hB
 . obtain ⟨ρ',ps',s',h1,_,_,h4⟩:=nT (b:=b) (G:=H) (X:=X) 5000 (akO b)
   obtain ⟨_,_,_,_,_,_,_,q1,q2,q3⟩:=Jq h1;subst q1 q2 q3;exact h4 ρF (fun p hp=>(List.mem_replicate.1 hp).2) h
theorem acC {b:MP} (w:World) {F:List Nat} (hk:KR w b stA F) (ss:List Value)
 (hss:∀ (i:Nat) cs,([]:List (List AV))[i]?=some cs->∃ v,ss[i]?=some v/\Sl w v (au (dX (([27,28,29,30,63,66,69,72,75,78,81,84,87]:List Nat).map jc)) cs)) (hsF:∀ v∈ss,∀ k,dK v=some k->k∉F) (h1:∀ v∈ss,v.oneCell'=true) {vals:List Value} (hvs:au (E0 (ρS (([27,28,29,30,63,66,69,72,75,78,81,84,87]:List Nat).map jc) ss)) (acA b)=vals) :
 Calls Tryz.prog 92 vals.toArray w fun e w'=>∃ us F',e=.returned (Lc true us)/\ah w w' F/\Sub F' F w/\KR w' b stB F'/\dh F' w' us ([KE.arr [493,495,497,499],KE.num 98,KE.num 109].map KE.ca):=by
 obtain ⟨ρ',ps',s',hend,_,_,_⟩:=nT (b:=b) (G:=fun _=>none) (X:=[]) 5000 (akO b);obtain ⟨v,g,δ,xs,hr,he,hx,q1,_,_⟩:=Jq hend;subst q1;have hd:dF (rS b)=δ:=by rw [hr]; rfl
 have hr':iJ (acg []) 5000 92 (acA b) ⟨.nil,0,aF [27,28,29,30,63,66,69,72,75,78,81,84,87]⟩=some (v,g,δ):=hr;refine Gn (cx:=acg []) (s':=stB) rfl (show Tryz.prog.follows .mixedOrders=true by kernel_rfl) (fun t n g h a w=>ae6 t n g h a w) rfl hr' (by kernel_rfl) aiy (by decide +kernel) he hx (fun H X ρF hF=>?_) w hk ss hss hsF h1 hvs;rw [<- hd];exact aiz b H X ρF hF
theorem afw (b:MP) (H:Nat->Option Obj) (X:List Nat) (ρF:Nat->Value) (h:lM PY ρF):an0 (qO b H X) ρF (.call 92 [.v (Nz b),.v (.agg [.opq 20,.opq 21,.opq 22,.opq 23]),.v (.agg [.opq 60,.opq 64,.opq 68]),.v (.agg [.opq 72,.opq 76,.opq 80]),.v (.agg [.opq 84,.opq 88,.opq 92])] (.jv [.agg (bQ 4 93),.opq 97,.opq 98])) stA stB:=by
 have e20:ρF 20=.int .i64 (27:Nat):=h 20 27 rfl;have e21:ρF 21=.int .i64 (28:Nat):=h 21 28 rfl;have e22:ρF 22=.int .i64 (29:Nat):=h 22 29 rfl;have e23:ρF 23=.int .i64 (30:Nat):=h 23 30 rfl;have e60:ρF 60=.int .i64 (63:Nat):=h 60 63 rfl;have e64:ρF 64=.int .i64 (66:Nat):=h 64 66 rfl;have e68:ρF 68=.int .i64 (69:Nat):=h 68 69 rfl;have e72:ρF 72=.int .i64 (72:Nat):=h 72 72 rfl;have e76:ρF 76=.int .i64 (75:Nat):=h 76 75 rfl;have e80:ρF 80=.int .i64 (78:Nat):=h 80 78 rfl;have e84:ρF 84=.int .i64 (81:Nat):=h 84 81 rfl;have e88:ρF 88=.int .i64 (84:Nat):=h 88 84 rfl;have e92:ρF 92=.int .i64 (87:Nat):=h 92 87 rfl;have e93:ρF 93=.int .i64 (493:Nat):=h 93 493 rfl;have e94:ρF 94=.int .i64 (495:Nat):=h 94 495 rfl;have e95:ρF 95=.int .i64 (497:Nat):=h 95 497 rfl;have e96:ρF 96=.int .i64 (499:Nat):=h 96 499 rfl;have e97:ρF 97=.int .i64 (98:Nat):=h 97 98 rfl;have e98:ρF 98=.int .i64 (109:Nat):=h 98 109 rfl
 have cq:AV.aA (E0 ρF) (.agg [.opq 20,.opq 21,.opq 22,.opq 23])=.agg #[.int .i64 27,.int .i64 28,.int .i64 29,.int .i64 30]:=by
  show Value.agg #[ρF 20,ρF 21,ρF 22,ρF 23]=_;rw [e20,e21,e22,e23];rfl
 have ct:AV.aA (E0 ρF) (.agg [.opq 60,.opq 64,.opq 68])=.agg #[.int .i64 63,.int .i64 66,.int .i64 69]:=by
  show Value.agg #[ρF 60,ρF 64,ρF 68]=_;rw [e60,e64,e68];rfl
 have cp:AV.aA (E0 ρF) (.agg [.opq 72,.opq 76,.opq 80])=.agg #[.int .i64 72,.int .i64 75,.int .i64 78]:=by
  show Value.agg #[ρF 72,ρF 76,ρF 80]=_;rw [e72,e76,e80];rfl
 have cf:AV.aA (E0 ρF) (.agg [.opq 84,.opq 88,.opq 92])=.agg #[.int .i64 81,.int .i64 84,.int .i64 87]:=by
  show Value.agg #[ρF 84,ρF 88,ρF 92]=_;rw [e84,e88,e92];rfl
 have co:AV.aA (E0 ρF) (.jv [.agg (bQ 4 93),.opq 97,.opq 98])=.tuple #[.agg #[.int .i64 493,.int .i64 495,.int .i64 497,.int .i64 499],.int .i64 98,.int .i64 109]:=by
  show Value.tuple #[Value.agg #[ρF 93,ρF 94,ρF 95,ρF 96],ρF 97,ρF 98]=_;rw [e93,e94,e95,e96,e97,e98];rfl
 intro w xs F hk ha
 match xs,ha with
 | [x0,x1,x2,x3,x4],ha =>
  obtain ⟨h0,h1,h2,h3,h4,_⟩:=ha;have h0:x0=AV.aA (E0 ρF) (Nz b):=h0;have h1:x1=AV.aA (E0 ρF) (.agg [.opq 20,.opq 21,.opq 22,.opq 23]):=h1;have h2:x2=AV.aA (E0 ρF) (.agg [.opq 60,.opq 64,.opq 68]):=h2;have h3:x3=AV.aA (E0 ρF) (.agg [.opq 72,.opq 76,.opq 80]):=h3;have h4:x4=AV.aA (E0 ρF) (.agg [.opq 84,.opq 88,.opq 92]):=h4;rw [cq] at h1;rw [ct] at h2;rw [cp] at h3;rw [cf] at h4;subst h0 h1 h2 h3 h4;rw [co];refine (acC w hk [] (fun i cs hi=>by simp at hi) (fun v hv=>by cases hv) (fun v hv=>by cases hv) (vals:=[AV.aA (E0 ρF) (Nz b),.agg #[.int .i64 27,.int .i64 28,.int .i64 29,.int .i64 30],.agg #[.int .i64 63,.int .i64 66,.int .i64 69],.agg #[.int .i64 72,.int .i64 75,.int .i64 78],.agg #[.int .i64 81,.int .i64 84,.int .i64 87]]) rfl).mono ?_;rintro e w' ⟨us,F',rfl,hc,hs,hk',hu⟩
  match us,hu with
  | [u0,u1,u2],hu =>
   obtain ⟨g0,g1,g2,_⟩:=hu;have g0:u0=.agg #[.int .i64 493,.int .i64 495,.int .i64 497,.int .i64 499]:=g0;have g1:u1=.int .i64 98:=g1;have g2:u2=.int .i64 109:=g2;subst g0 g1 g2;exact ⟨rfl,hc,F',hs,hk'⟩
theorem amK (b:MP) (H:Nat->Option Obj) (X:List Nat) (ρF:Nat->Value) (h:lM rhoC ρF):gU (qO b H X) ρF (dF (rF b)) D6 Z7:=by
 have hB:lM PY ρF:=by rw [ap9] at h; exact h.of_append
 have hA:lM acz ρF:=by
  have h':=hB;rw [ap8] at h';exact h'.of_append
 have e:dF (rF b)=(dF (rF b)).take 49 ++ (.call 92 [.v (Nz b),.v (.agg [.opq 20,.opq 21,.opq 22,.opq 23]),.v (.agg [.opq 60,.opq 64,.opq 68]),.v (.agg [.opq 72,.opq 76,.opq 80]),.v (.agg [.opq 84,.opq 88,.opq 92])] (.jv [.agg (bQ 4 93),.opq 97,.opq 98]) :: (dF (rF b)).drop 50):=by rw [<- evF b,List.take_append_drop]
 rw [e];refine (mP (M:=qO b H X)).2 ⟨stA,?_,stB,afw b H X ρF hB,?_⟩
 . obtain ⟨ρ',ps',s',h1,_,_,h4⟩:=nT (b:=b) (G:=H) (X:=X) 5000 (EN b)
   have q:=Option.some.inj h1;have q1:ρ'=acz:=congrArg Prod.fst q;have q2:ps'=List.replicate 68 ⟨b.a,0,none⟩:=congrArg (fun q=>q.2.1) q;have q3:s'=stA:=congrArg (fun q=>q.2.2) q;subst q1 q2 q3;exact h4 ρF (fun p hp=>(List.mem_replicate.1 hp).2) hA
 . obtain ⟨ρ',ps',s',h1,_,_,h4⟩:=nT (b:=b) (G:=H) (X:=X) 5000 (ap7 b)
   obtain ⟨_,_,_,_,_,_,_,q1,q2,q3⟩:=Jq h1;subst q1 q2 q3;exact h4 ρF (fun p hp=>(List.mem_replicate.1 hp).2) h
theorem ap_:vO cxF:=fun t n g h a w=>ae6 t n g h a w
theorem afx {b:MP} (w:World) {F:List Nat} (hk:KR w b D6 F) (ss:List Value)
 (hss:∀ (i:Nat) cs,([bQ 20 0]:List (List AV))[i]?=some cs->∃ v,ss[i]?=some v/\Sl w v (au (dX (([0,1,2,3,4,5,6,7,8,9,10,11,12,13,14,15,16,17,18,19,27,28,29,30,31,32,33]:List Nat).map jc)) cs)) (hsF:∀ v∈ss,∀ k,dK v=some k->k∉F) (h1:∀ v∈ss,v.oneCell'=true) {vals:List Value} (hvs:au (E0 (ρS (([0,1,2,3,4,5,6,7,8,9,10,11,12,13,14,15,16,17,18,19,27,28,29,30,31,32,33]:List Nat).map jc) ss)) [Nz b,.lit (.int .i64 0),.vw 1000000 0 20,.agg (bQ 7 20)]=vals) :
 Calls Tryz.prog 54 vals.toArray w fun e w'=>∃ us F',e=.returned (Lc true us)/\ah w w' F/\Sub F' F w/\KR w' b (zC b) F'/\dh F' w' us ([KE.arr A8,KE.sli bG].map KE.ca):=by
 obtain ⟨ρ',ps',s',hend,_,_,_⟩:=nT (b:=b) (G:=fun _=>none) (X:=[]) 5000 (ap7 b);obtain ⟨v,g,δ,xs,hr,he,hx,q1,_,_⟩:=Jq hend;subst q1;have hd:dF (rF b)=δ:=by rw [hr]; rfl
 have hr':iJ cxF 5000 54 [Nz b,.lit (.int .i64 0),.vw 1000000 0 20,.agg (bQ 7 20)] ⟨.nil,0,aF [0,1,2,3,4,5,6,7,8,9,10,11,12,13,14,15,16,17,18,19,27,28,29,30,31,32,33]⟩=some (v,g,δ):=hr;refine Gn (cx:=cxF) (s':=Z7) rfl (show Tryz.prog.follows .mixedOrders=true by kernel_rfl) ap_ rfl hr' (by kernel_rfl) aix (by decide +kernel) he hx (fun H X ρF hF=>?_) w hk ss hss hsF h1 hvs;rw [<- hd];exact amK b H X ρF hF
end

section
open Go Go.RowKit Ab Xi
def akP (s:KS):KS:=(((((((s.set 20 502).set 21 505).set 22 508).set 23 511).set 24 514).set 25 520).set 26 517)
def NY (b:MP):KS:=akP (zC b)
def n_ (b:MP):KS:=(NY b).answer bG
theorem aqa (s:KS) (c v:Nat):(s.set c v).rc=⟨35,((1:Nat):Int),0,0,(c:Nat)⟩ :: ⟨34,((1:Nat):Int),0,0,(v:Nat)⟩ :: s.rc:=rfl
theorem aqb (s:KS) (i:aW):(s.ins i).rc=i :: s.rc:=rfl
theorem afy (s:KS) (l:List Nat):(s.answer l).rc=s.rc:=rfl
def NZ (w:Nat):Bool:=decide (jU (iH w)=0) && decide (encI (iH w)=(w:Int))
set_option maxRecDepth 100000
theorem atl:((wordsOf aK 2921).take 750).all NZ=true:=by kernel_rfl
theorem atm:(((wordsOf aK 2921).drop 750).take 750).all NZ=true:=by kernel_rfl
theorem atn:((((wordsOf aK 2921).drop 750).drop 750).take 750).all NZ=true:=by kernel_rfl
theorem ato:((((wordsOf aK 2921).drop 750).drop 750).drop 750).all NZ=true:=by kernel_rfl
theorem av7 {p:Nat->Bool} {l:List Nat} (h0:(l.take 750).all p=true) (h1:((l.drop 750).take 750).all p=true) (h2:(((l.drop 750).drop 750).take 750).all p=true) (h3:(((l.drop 750).drop 750).drop 750).all p=true):l.all p=true:=by
 rw [<- List.take_append_drop 750 l,List.all_append,h0,<- List.take_append_drop 750 (l.drop 750),List.all_append,h1,<- List.take_append_drop 750 ((l.drop 750).drop 750),List.all_append,h2,h3];rfl
theorem Wu:∀ w∈wordsOf aK 2921,jU (iH w)=0/\encI (iH w)=(w:Int):=fun w hw=>by
 have h:=List.all_eq_true.1 (av7 atl atm atn ato) w hw;unfold NZ at h;rw [Bool.and_eq_true] at h;exact ⟨of_decide_eq_true h.1,of_decide_eq_true h.2⟩
theorem Z8:((wordsOf aK 2921).map iH).map encI=(wordsOf aK 2921).map fun n:Nat=>(n:Int):=by
 rw [List.map_map];exact List.map_congr_left fun w hw=>(Wu w hw).2
theorem Z9:∀ i∈(wordsOf aK 2921).map iH,jU i=0:=fun i hi=>by
 obtain ⟨w,hw,rfl⟩:=List.mem_map.1 hi;exact (Wu w hw).1
def TG:List (Nat × Nat)->Nat->Option Nat->Option Nat
 | [],_,acc=>acc
 | p :: l,k,acc=>TG l k (bif Nat.beq p.1 k then some p.2 else acc)
theorem Wv (k:Nat):∀ (fx:List (Nat × Nat)) (acc:Option Nat),(fx.map U2).foldl (fun acc p=>if p.1=(k:Int) then some p.2 else acc) (acc.map fun n:Nat=>(n:Int))=(TG fx k acc).map fun n:Nat=>(n:Int)
 | [],_=>rfl
 | p :: l,acc=>by
  rw [List.map_cons,List.foldl_cons]
  have e:(if (U2 p).1=(k:Int) then some (U2 p).2 else acc.map fun n:Nat=>(n:Int))=((bif Nat.beq p.1 k then some p.2 else acc):Option Nat).map fun n:Nat=>(n:Int):=by
   cases h:Nat.beq p.1 k with
   | true =>
    have h':=beq_iff.1 h;rw [if_pos (by show ((p.1:Nat):Int)=_; rw [h'])];rfl
   | false =>
    have h':p.1≠k:=fun e=>by rw [beq_iff.2 e] at h; cases h
    rw [if_neg (by show ((p.1:Nat):Int)≠_; omega)];rfl
  rw [e];exact Wv k l _
def acD (fx:List (Nat × Nat)):Nat->List Nat->Bool
 | _,[]=>true
 | k,w :: l=>(match TG fx k none with | some t=>Nat.beq (gW w) 38 && Nat.beq t (nN w) | none=>bif Nat.beq (gW w) 38 then false else true) && fP (Nat.add k 1) fun k'=>acD fx k' l
theorem Z_ {fx:List (Nat × Nat)}:∀ {l:List Nat} {k:Nat},acD fx k l=true->∀ (i w:Nat),l[i]?=some w->patched (fx.map U2) (k+i) (Fj w)=iH w
 | [],_,_,i,w,h=>by simp at h
 | w0 :: l,k,h,i,w,hw=>by
  unfold acD at h;rw [Bool.and_eq_true,yZ] at h;obtain ⟨h1,h2⟩:=h
  cases i with
  | zero =>
   have e:w0=w:=by simpa using hw
   subst e;unfold patched yX;have hl:=Wv k fx none;rw [show ((none:Option Nat).map fun n:Nat=>(n:Int))=none from rfl] at hl;rw [Nat.add_zero,hl]
   cases hk:TG fx k none with
   | some t =>
    rw [hk] at h1;simp only [Bool.and_eq_true] at h1;have e1:=beq_iff.1 h1.1;have e2:=beq_iff.1 h1.2;show ({ Fj w0 with n:=(t:Int) }:aW)=_;unfold Fj iH;rw [h1.1,e1,e2];rfl
   | none =>
    rw [hk] at h1;simp only [] at h1
    cases hb:Nat.beq (gW w0) 38 with
    | true=>rw [hb] at h1; cases h1
    | false =>
     show Fj w0=_;unfold Fj;rw [hb];rfl
  | succ i =>
   have:=Z_ h2 i w (by simpa using hw);rw [show k+(i+1)=Nat.add k 1+i by show _=k+1+i; omega];exact this
def fxF:List (Nat × Nat):=[(77,44),(79,26),(345,311),(613,579),(934,900),(1396,1362),(1716,1682),(2016,1952),(2145,2111),(2269,2205),(2434,2370),(2885,2852),(2887,2834)]
theorem av8:acD fxF 0 (wordsOf aK 2921)=true:=by kernel_rfl
theorem codeF:uO (fxF.map U2) ((wordsOf aK 2921).map Fj)=(wordsOf aK 2921).map fun w:Nat=>(w:Int):=by
 apply List.ext_getElem?;intro k;unfold uO;rw [List.getElem?_mapIdx,List.getElem?_map,List.getElem?_map]
 cases hw:(wordsOf aK 2921)[k]? with
 | none=>rfl
 | some w =>
  have:=Z_ av8 k w hw;rw [Nat.zero_add] at this;simp only [Option.map_some,this];rw [(Wu w (List.mem_of_getElem? hw)).2]
theorem aqd:Z7.rc=(((wordsOf aK 2921).take 2906).map Fj).reverse:=by unfold Z7 PX; rfl
theorem afz (b:MP):((n_ b).ins ⟨43,0,0,0,0⟩).rc.reverse=(wordsOf aK 2921).map Fj:=by
 unfold n_ NY akP zC;simp only [aqb,afy,aqa,List.reverse_cons,List.append_assoc,List.cons_append,List.nil_append];rw [aqd,List.reverse_reverse]
 conv=>rhs; rw [<- List.take_append_drop 2906 (wordsOf aK 2921),List.map_append]
 congr 1
theorem amL (b:MP):G7 ((n_ b).ins ⟨43,0,0,0,0⟩).rd.reverse ((n_ b).ins ⟨43,0,0,0,0⟩).ru.reverse=some fxF:=by kernel_rfl
theorem amM (b:MP):U3 ((n_ b).ins ⟨43,0,0,0,0⟩)=some ((wordsOf aK 2921).map fun w:Nat=>(w:Int)):=by
 unfold U3;rw [amL];have hl:((n_ b).ins ⟨43,0,0,0,0⟩).rc.length=2921:=by rw [<- List.length_reverse,afz,List.length_map,Ia]
 simp only [];rw [hl,afz,codeF];rfl
end

section
open Go Go.RowKit Ab Xi
set_option maxRecDepth 100000
theorem aqe (b:MP):((n_ b).ins ⟨43,0,0,0,0⟩).Nv=true:=by kernel_rfl
theorem aqf (b:MP):Nat.ble (n_ b).ru.length 100000=true:=by kernel_rfl
theorem aqg (b:MP):Nat.ble (zC b).nc 700000=true:=by kernel_rfl
theorem aqh (b:MP):Nat.ble ((NY b).ro.length+bG.length) 2048=true:=by kernel_rfl
theorem amN (b:MP):Jc (n_ b)=fF:=by kernel_rfl
theorem aiA (b:MP):dZ (n_ b).rr.reverse=jQ:=by kernel_rfl
theorem amO (b:MP):(n_ b).ri.reverse=[0,1,2,3,4,5,6,7,8,9,10,11,12,13,14,15,16,17,18,19]:=by kernel_rfl
theorem aiB (b:MP):(n_ b).ro.reverse=bG:=by kernel_rfl
end

section
open Go Go.RowKit Go.Deep Go.Maps Ab Xi
attribute [local go_sem] Oper.semAt_some
def kS:Nat->KS
 | 0=>QT.given 20
 | 1=>(QT.given 20).stays 1073741824
 | j+2=>(kS (j+1)).stays 0
theorem N_:∀ j,j < 7->(kS j).can 1=true:=fun j hj=>by
 rcases (by omega:j=0\/j=1\/j=2\/j=3\/j=4\/j=5\/j=6) with rfl | rfl | rfl | rfl | rfl | rfl | rfl<;>kernel_rfl
theorem Jr:∀ j,j<=7->(kS j).used=20+j:=fun j hj=>by
 rcases (by omega:j=0\/j=1\/j=2\/j=3\/j=4\/j=5\/j=6\/j=7) with rfl | rfl | rfl | rfl | rfl | rfl | rfl | rfl<;>kernel_rfl
theorem amU (j:Nat):(kS j).stays (if j=0 then 1073741824 else 0)=kS (j+1):=by
 rcases j with _ | j
 . rfl
 . rfl
def dL (j:Nat):List Value:=(List.range 7).map fun i=>.int .i64 (if i < j then ((20+i:Nat):Int) else 0)
theorem afF (j:Nat):(dL j).length=7:=by simp [dL]
theorem xP:∀ j,j < 7->(dL j).set j (.int .i64 ((20+j:Nat):Int))=dL (j+1):=fun j hj=>by
 match j,hj with
 | 0,_=>rfl
 | 1,_=>rfl
 | 2,_=>rfl
 | 3,_=>rfl
 | 4,_=>rfl
 | 5,_=>rfl
 | 6,_=>rfl
theorem YR {w:World} {b:MP} {F:List Nat} (hQ:11<=w.heap.size) (h:KR w b (QT.given 20) F) :
 Calls Tryz.prog 50 #[.pointer (some ⟨b.a,0,none⟩)] w (iW (.agg (dL 7).toArray) Ws b F w):=by
 have hs0:=(aC.new w 102 (dL 0)).alloc (.cells (dL 0).toArray 102);have hs1:=aC.new (w.alloc (.cells (dL 0).toArray 102)) 102 (dL 0);have hz:(w.alloc (.cells (dL 0).toArray 102)).heap.size=w.heap.size+1:=size_alloc _ _;rw [hz] at hs1;have hc0:ah w ((w.alloc (.cells (dL 0).toArray 102)).alloc (.cells (dL 0).toArray 102)) []:=((ah.refl w []).alloc _).alloc _;have hk0:=h.cO hc0;have he:dL 0=[.int .i64 0,.int .i64 0,.int .i64 0,.int .i64 0,.int .i64 0,.int .i64 0,.int .i64 0]:=rfl;have hq0:11<=w.heap.size:=hQ;have yE:=hide (show ∀ k∈F,k < w.heap.size from fun k hk=>h.lt k hk);rw [he] at hs0 hs1 hc0 hk0 hz;have H0:=hide hs0;have H1:=hide hs1;have lu:=hide hc0;have HK0:=hide hk0;have HQ:=hide hq0;clear hq0 hQ h hs0 hs1 hc0 hk0 he;go_enter Tryz.func50,Tryz.ntmps50
 go_wp2_with fail
 generalize hM:w.heap.size=M at *;have Rq:=hide hM;generalize hW:(w.alloc (.cells #[.int .i64 0,.int .i64 0,.int .i64 0,.int .i64 0,.int .i64 0,.int .i64 0,.int .i64 0] 102)).alloc (.cells #[.int .i64 0,.int .i64 0,.int .i64 0,.int .i64 0,.int .i64 0,.int .i64 0,.int .i64 0] 102)=W0 at *;have hzW:W0.heap.size=M+2:=by rw [<- hW,size_alloc,hz]
 have yH:=hide (show ∀ k,M<=k->k < M+2->∀ F',Sub F' F W0->k∉F' from fun k h1 h2 F' hs hm=>by
  rcases hs k hm with h | h
  . have:=yE.out k h; omega
  . omega)
 clear hW hzW hz;go_loopw [4,5,8] (fun _ _ i wr=>∃ j:Nat,j<=4/\i=.int .i64 j/\Hid (ah W0 wr ((M+1) :: F))/\Hid (∃ F',Sub F' F W0/\KR wr b (kS j) F')/\Hid (aC wr (M+1) 102 (dL j))/\Hid (aC wr M 102 (dL 0))) (fun _ _ i _=>4 - (intOf i).toNat)
 case atStart=>exact ⟨0,Nat.zero_le _,rfl,hide (ah.refl _ _),hide ⟨F,Sub.refl _ _,HK0.out⟩,H1,H0⟩
 case round =>
  clear HK0 H0 H1;obtain ⟨j,hj,rfl,HC,HK,HB,HR⟩:=hrel;by_cases hlt:j < 4
  . obtain ⟨F1,hs1,hk1⟩:=HK.out
    have hst:=wZ hk1 (if j=0 then 1073741824 else 0) (by split<;>(unfold aB; omega)) (N_ j (by omega));rw [amU,Jr j (by omega)] at hst;obtain ⟨y,hy⟩:∃ y,(dL j)[j]?=some y:=⟨(dL j)[j]'(by rw [afF]; omega),by simp⟩
    have fG:=hide hs1;have kJ:=hide (show M+1∉F1/\M∉F1 from ⟨fun hm=>yH.out (M+1) (by omega) (by omega) F1 hs1 hm,fun hm=>yH.out M (by omega) (by omega) F1 hs1 hm⟩);clear hs1 hk1;by_cases h0:j=0
    . subst h0
      rw [if_pos rfl] at hst;clear hj hlt;go_wp2_with fail
      go_at_call 84;refine hst.mono ?_;rintro e w2 ⟨rfl,hc2,F2,hs2,hk2⟩;have hb2:=HB.out.aj hc2 kJ.out.1;have HR2:=hide (HR.out.aj hc2 kJ.out.2);have z:=hb2.cell' hy;have f:=hb2.frozen 0;have hbl:=hb2.lt;have hset:=xP 0 (by omega);have uo:=hide (show aC (w2.setCell ⟨M+1,0,none⟩ (.int .i64 ((20+0:Nat):Int))) (M+1) 102 (dL (0+1)) from hset ▸ hb2.bC 0 _);have hS:ah w2 (w2.setCell ⟨M+1,0,none⟩ (.int .i64 ((20+0:Nat):Int))) [M+1]:=(ah.refl w2 [M+1]).setCell _ _ (.inl (List.mem_singleton.2 rfl));have HC2:=hide (show ah W0 (w2.setCell ⟨M+1,0,none⟩ (.int .i64 ((20+0:Nat):Int))) ((M+1) :: F) from (HC.out.trans hc2 (fun k hk=>(fG.out k hk).imp_left fun h=>List.mem_cons_of_mem _ h)).trans hS (fun k hk=>.inl (by simp at hk; simp [hk])))
      have HS2:=hide (show Sub F2 F W0 from fun k hk=>by
       rcases hs2 k hk with h | h
       . exact fG.out k h
       . exact .inr (Nat.le_trans HC.out.size h))
      have HF2:=hide (show M+1∉F2/\M∉F2 from ⟨fun hm=>yH.out (M+1) (by omega) (by omega) F2 HS2.out hm,fun hm=>yH.out M (by omega) (by omega) F2 HS2.out hm⟩);have nS:=hide (hk2.aj hS (fun k hk hm=>HF2.out.1 (by simp at hm; exact hm ▸ hk)) (fun k hk=>by have:=HQ.out; simp at hk; omega));have HR3:=hide (HR2.out.aj hS (by simp));clear hst hc2 hs2 hk2 hb2 hset hS hy;go_wp2;go_roundw
      case rel=>exact ⟨0+1,by omega,by go_num,HC2,hide ⟨F2,HS2.out,nS.out⟩,uo,HR3⟩
      case measure=>simp [intOf]
    . rw [if_neg h0] at hst
      have t0:((j:Int)==0)=false:=by simp; omega
      clear h0;go_wp2_with fail
      go_at_call 84;refine hst.mono ?_;rintro e w2 ⟨rfl,hc2,F2,hs2,hk2⟩;have hb2:=HB.out.aj hc2 kJ.out.1;have HR2:=hide (HR.out.aj hc2 kJ.out.2);have z:=hb2.cell' hy;have f:=hb2.frozen j;have hbl:=hb2.lt;have hset:=xP j (by omega);have uo:=hide (show aC (w2.setCell ⟨M+1,j,none⟩ (.int .i64 ((20+j:Nat):Int))) (M+1) 102 (dL (j+1)) from hset ▸ hb2.bC j _);have hS:ah w2 (w2.setCell ⟨M+1,j,none⟩ (.int .i64 ((20+j:Nat):Int))) [M+1]:=(ah.refl w2 [M+1]).setCell _ _ (.inl (List.mem_singleton.2 rfl));have HC2:=hide (show ah W0 (w2.setCell ⟨M+1,j,none⟩ (.int .i64 ((20+j:Nat):Int))) ((M+1) :: F) from (HC.out.trans hc2 (fun k hk=>(fG.out k hk).imp_left fun h=>List.mem_cons_of_mem _ h)).trans hS (fun k hk=>.inl (by simp at hk; simp [hk])))
      have HS2:=hide (show Sub F2 F W0 from fun k hk=>by
       rcases hs2 k hk with h | h
       . exact fG.out k h
       . exact .inr (Nat.le_trans HC.out.size h))
      have HF2:=hide (show M+1∉F2/\M∉F2 from ⟨fun hm=>yH.out (M+1) (by omega) (by omega) F2 HS2.out hm,fun hm=>yH.out M (by omega) (by omega) F2 HS2.out hm⟩);have nS:=hide (hk2.aj hS (fun k hk hm=>HF2.out.1 (by simp at hm; exact hm ▸ hk)) (fun k hk=>by have:=HQ.out; simp at hk; omega));have HR3:=hide (HR2.out.aj hS (by simp));clear hst hc2 hs2 hk2 hb2 hset hS hy;go_wp2;go_roundw
      case rel=>exact ⟨j+1,by omega,by go_num,HC2,hide ⟨F2,HS2.out,nS.out⟩,uo,HR3⟩
      case measure=>simp [intOf]; omega
  . obtain rfl:j=4:=by omega
    have gV:=HC;have HK4:=HK;have HB4:=HB;have HR4:=HR;clear HC HK HB HR hlt hj;go_wp2_with fail
    go_loopw [7,24] (fun _ i wr=>∃ j:Nat,j<=3/\i=.int .i64 j/\Hid (ah W0 wr ((M+1) :: F))/\Hid (∃ F',Sub F' F W0/\KR wr b (kS (4+j)) F')/\Hid (aC wr (M+1) 102 (dL (4+j)))/\Hid (aC wr M 102 (dL 0))) (fun _ i _=>3 - (intOf i).toNat)
    case atStart=>exact ⟨0,Nat.zero_le _,rfl,gV,HK4,HB4,HR4⟩
    case round =>
     clear gV HK4 HB4 HR4;obtain ⟨j,hj,rfl,HC,HK,HB,HR⟩:=hrel;by_cases hlt:j < 3
     . obtain ⟨F1,hs1,hk1⟩:=HK.out
       have fG:=hide hs1;have kJ:=hide (show M+1∉F1/\M∉F1 from ⟨fun hm=>yH.out (M+1) (by omega) (by omega) F1 hs1 hm,fun hm=>yH.out M (by omega) (by omega) F1 hs1 hm⟩);rcases (by omega:j=0\/j=1\/j=2) with rfl | rfl | rfl
       . have hst:=wZ hk1 0 (by unfold aB; omega) (N_ 4 (by omega))
         rw [show (kS 4).stays 0=kS 5 from rfl,Jr 4 (by omega)] at hst;obtain ⟨y,hy⟩:∃ y,(dL 4)[4]?=some y:=⟨_,rfl⟩
         clear hs1 hk1 hj hlt;have hix:∀ w:World,(Instr.index 163 (.agg #[.pointer (some ⟨M+1,4,none⟩),.pointer (some ⟨M+1,5,none⟩),.pointer (some ⟨M+1,6,none⟩)]) (.int .i64 0)).run Tryz.prog w=.ok (.pointer (some ⟨M+1,4,none⟩)) w:=fun _=>by kernel_rfl
         go_wp2_with fail
         go_at_call 84;refine hst.mono ?_;rintro e w2 ⟨rfl,hc2,F2,hs2,hk2⟩;have hb2:=HB.out.aj hc2 kJ.out.1;have HR2:=hide (HR.out.aj hc2 kJ.out.2);have z:=hb2.cell' hy;have f:=hb2.frozen 4;have hbl:=hb2.lt;have hset:=xP 4 (by omega);have uo:=hide (show aC (w2.setCell ⟨M+1,4,none⟩ (.int .i64 ((20+4:Nat):Int))) (M+1) 102 (dL (4+1)) from hset ▸ hb2.bC 4 _);have hS:ah w2 (w2.setCell ⟨M+1,4,none⟩ (.int .i64 ((20+4:Nat):Int))) [M+1]:=(ah.refl w2 [M+1]).setCell _ _ (.inl (List.mem_singleton.2 rfl));have HC2:=hide (show ah W0 (w2.setCell ⟨M+1,4,none⟩ (.int .i64 ((20+4:Nat):Int))) ((M+1) :: F) from (HC.out.trans hc2 (fun k hk=>(fG.out k hk).imp_left fun h=>List.mem_cons_of_mem _ h)).trans hS (fun k hk=>.inl (by simp at hk; simp [hk])))
         have HS2:=hide (show Sub F2 F W0 from fun k hk=>by
          rcases hs2 k hk with h | h
          . exact fG.out k h
          . exact .inr (Nat.le_trans HC.out.size h))
         have HF2:=hide (show M+1∉F2/\M∉F2 from ⟨fun hm=>yH.out (M+1) (by omega) (by omega) F2 HS2.out hm,fun hm=>yH.out M (by omega) (by omega) F2 HS2.out hm⟩);have nS:=hide (hk2.aj hS (fun k hk hm=>HF2.out.1 (by simp at hm; exact hm ▸ hk)) (fun k hk=>by have:=HQ.out; simp at hk; omega));have HR3:=hide (HR2.out.aj hS (by simp));clear hst hc2 hs2 hk2 hb2 hset hS hy;go_wp2;refine ⟨⟨_,_,_,_,_,_,_,_,_,⟨0+1,by omega,by go_num,HC2,hide ⟨F2,HS2.out,nS.out⟩,uo,HR3⟩,rfl⟩,?_⟩;simp [intOf]
       . have hst:=wZ hk1 0 (by unfold aB; omega) (N_ 5 (by omega))
         rw [show (kS 5).stays 0=kS 6 from rfl,Jr 5 (by omega)] at hst;obtain ⟨y,hy⟩:∃ y,(dL 5)[5]?=some y:=⟨_,rfl⟩
         clear hs1 hk1 hj hlt;have hix:∀ w:World,(Instr.index 163 (.agg #[.pointer (some ⟨M+1,4,none⟩),.pointer (some ⟨M+1,5,none⟩),.pointer (some ⟨M+1,6,none⟩)]) (.int .i64 1)).run Tryz.prog w=.ok (.pointer (some ⟨M+1,5,none⟩)) w:=fun _=>by kernel_rfl
         go_wp2_with fail
         go_at_call 84;refine hst.mono ?_;rintro e w2 ⟨rfl,hc2,F2,hs2,hk2⟩;have hb2:=HB.out.aj hc2 kJ.out.1;have HR2:=hide (HR.out.aj hc2 kJ.out.2);have z:=hb2.cell' hy;have f:=hb2.frozen 5;have hbl:=hb2.lt;have hset:=xP 5 (by omega);have uo:=hide (show aC (w2.setCell ⟨M+1,5,none⟩ (.int .i64 ((20+5:Nat):Int))) (M+1) 102 (dL (5+1)) from hset ▸ hb2.bC 5 _);have hS:ah w2 (w2.setCell ⟨M+1,5,none⟩ (.int .i64 ((20+5:Nat):Int))) [M+1]:=(ah.refl w2 [M+1]).setCell _ _ (.inl (List.mem_singleton.2 rfl));have HC2:=hide (show ah W0 (w2.setCell ⟨M+1,5,none⟩ (.int .i64 ((20+5:Nat):Int))) ((M+1) :: F) from (HC.out.trans hc2 (fun k hk=>(fG.out k hk).imp_left fun h=>List.mem_cons_of_mem _ h)).trans hS (fun k hk=>.inl (by simp at hk; simp [hk])))
         have HS2:=hide (show Sub F2 F W0 from fun k hk=>by
          rcases hs2 k hk with h | h
          . exact fG.out k h
          . exact .inr (Nat.le_trans HC.out.size h))
         have HF2:=hide (show M+1∉F2/\M∉F2 from ⟨fun hm=>yH.out (M+1) (by omega) (by omega) F2 HS2.out hm,fun hm=>yH.out M (by omega) (by omega) F2 HS2.out hm⟩);have nS:=hide (hk2.aj hS (fun k hk hm=>HF2.out.1 (by simp at hm; exact hm ▸ hk)) (fun k hk=>by have:=HQ.out; simp at hk; omega));have HR3:=hide (HR2.out.aj hS (by simp));clear hst hc2 hs2 hk2 hb2 hset hS hy;go_wp2;refine ⟨⟨_,_,_,_,_,_,_,_,_,⟨1+1,by omega,by go_num,HC2,hide ⟨F2,HS2.out,nS.out⟩,uo,HR3⟩,rfl⟩,?_⟩;simp [intOf]
       . have hst:=wZ hk1 0 (by unfold aB; omega) (N_ 6 (by omega))
         rw [show (kS 6).stays 0=kS 7 from rfl,Jr 6 (by omega)] at hst;obtain ⟨y,hy⟩:∃ y,(dL 6)[6]?=some y:=⟨_,rfl⟩
         clear hs1 hk1 hj hlt;have hix:∀ w:World,(Instr.index 163 (.agg #[.pointer (some ⟨M+1,4,none⟩),.pointer (some ⟨M+1,5,none⟩),.pointer (some ⟨M+1,6,none⟩)]) (.int .i64 2)).run Tryz.prog w=.ok (.pointer (some ⟨M+1,6,none⟩)) w:=fun _=>by kernel_rfl
         go_wp2_with fail
         go_at_call 84;refine hst.mono ?_;rintro e w2 ⟨rfl,hc2,F2,hs2,hk2⟩;have hb2:=HB.out.aj hc2 kJ.out.1;have HR2:=hide (HR.out.aj hc2 kJ.out.2);have z:=hb2.cell' hy;have f:=hb2.frozen 6;have hbl:=hb2.lt;have hset:=xP 6 (by omega);have uo:=hide (show aC (w2.setCell ⟨M+1,6,none⟩ (.int .i64 ((20+6:Nat):Int))) (M+1) 102 (dL (6+1)) from hset ▸ hb2.bC 6 _);have hS:ah w2 (w2.setCell ⟨M+1,6,none⟩ (.int .i64 ((20+6:Nat):Int))) [M+1]:=(ah.refl w2 [M+1]).setCell _ _ (.inl (List.mem_singleton.2 rfl));have HC2:=hide (show ah W0 (w2.setCell ⟨M+1,6,none⟩ (.int .i64 ((20+6:Nat):Int))) ((M+1) :: F) from (HC.out.trans hc2 (fun k hk=>(fG.out k hk).imp_left fun h=>List.mem_cons_of_mem _ h)).trans hS (fun k hk=>.inl (by simp at hk; simp [hk])))
         have HS2:=hide (show Sub F2 F W0 from fun k hk=>by
          rcases hs2 k hk with h | h
          . exact fG.out k h
          . exact .inr (Nat.le_trans HC.out.size h))
         have HF2:=hide (show M+1∉F2/\M∉F2 from ⟨fun hm=>yH.out (M+1) (by omega) (by omega) F2 HS2.out hm,fun hm=>yH.out M (by omega) (by omega) F2 HS2.out hm⟩);have nS:=hide (hk2.aj hS (fun k hk hm=>HF2.out.1 (by simp at hm; exact hm ▸ hk)) (fun k hk=>by have:=HQ.out; simp at hk; omega));have HR3:=hide (HR2.out.aj hS (by simp));clear hst hc2 hs2 hk2 hb2 hset hS hy;go_wp2;refine ⟨⟨_,_,_,_,_,_,_,_,_,⟨2+1,by omega,by go_num,HC2,hide ⟨F2,HS2.out,nS.out⟩,uo,HR3⟩,rfl⟩,?_⟩;simp [intOf]
     . obtain rfl:j=3:=by omega
       obtain ⟨F1,hs1,hk1⟩:=HK.out;have fG:=hide hs1;have Gi:=hide hk1;have kJ:=hide (show M+1∉F1/\M∉F1 from ⟨fun hm=>yH.out (M+1) (by omega) (by omega) F1 hs1 hm,fun hm=>yH.out M (by omega) (by omega) F1 hs1 hm⟩);have hb:=HB.out;have hr:=HR.out;clear hs1 hk1 hj hlt;go_wp2_with (refine wpList_load_row rfl 102 (.tmp 3) rfl (M+1) rfl 102 (dL 7).toArray (0,0) _ hb Tryz.underlying102 rfl (by kernel_rfl) ?_; refine wpList_store_row rfl 102 _ _ rfl M (dL 7).toArray rfl rfl 102 _ hr (by kernel_rfl) (by rfl) (by kernel_rfl) ?_);have hb':aC (wr.setRow M (dL 7).toArray) M 102 (dL 7):=setRow_heap wr M _ _ _ _ hr;have hc':=N9 wr M (dL 7).toArray;generalize wr.setRow M (dL 7).toArray=w9 at *;have HB9:=hide hb';have HC9:=hide hc';clear hb hr hb' hc';go_wp2;refine bodyPost_ret (v:=.agg (dL 7).toArray) (results_cell_row rfl _ _ M 102 _ (0,0) _ rfl HB9.out Tryz.underlying102 rfl (by kernel_rfl)) rfl ?_;have hch:ah W0 w9 (M :: (M+1) :: F):=(HC.out.more (fun k hk=>.inl (List.mem_cons_of_mem _ hk))).trans HC9.out (fun k hk=>.inl (by simp at hk; simp [hk]));refine ⟨rfl,(lu.out.more (D':=F) (by simp)).trans hch (fun k hk=>?_),F1,fun k hk=>?_,?_⟩
       . simp only [List.mem_cons] at hk
         have:=Rq.out;rcases hk with rfl | rfl | hk
         . exact .inr (by omega)
         . exact .inr (by omega)
         . exact .inl hk
       . rcases fG.out k hk with h | h
         . exact .inl h
         . exact .inr (Nat.le_trans lu.out.size h)
       . exact Gi.out.aj HC9.out (fun k hk hm=>kJ.out.2 (by simp at hm; exact hm ▸ hk)) (fun k hk=>by have:=HQ.out; have:=Rq.out; simp at hk; omega)
theorem YS {w:World} (a b kk:Nat) (Inv:Nat->World->Prop) (hst:∀ j w w',Inv j w->ah w w' []->Inv j w')
 (hdo:∀ j,j < 7->∀ w,Inv j w->Calls Tryz.prog 52 #[.pointer (some ⟨a,j,none⟩),.pointer (some ⟨b,j,none⟩),.pointer (some ⟨kk,0,none⟩)] w fun e w'=>(∃ v,e=.returned v)/\Inv (j+1) w') (h:Inv 0 w) :
 Calls Tryz.prog 51 #[.pointer (some ⟨a,0,none⟩),.pointer (some ⟨b,0,none⟩),.func (.func 52) #[] #[.pointer (some ⟨kk,0,none⟩)]] w fun e w'=>(∃ v,e=.returned v)/\Inv 7 w':=by
 have HST:=hide hst;have qc:=hide hdo;have HI:=hide h;clear hst hdo h;go_enter Tryz.func51,Tryz.ntmps51
 go_wp2_with fail
 go_loopw [6,7] (fun _ i wr=>∃ j:Nat,j<=4/\i=.int .i64 j/\Hid (Inv j wr)) (fun _ i _=>4 - (intOf i).toNat)
 case atStart=>exact ⟨0,Nat.zero_le _,rfl,HI⟩
 case round =>
  clear HI;obtain ⟨j,hj,rfl,HJ⟩:=hrel;by_cases hlt:j < 4
  . have hc:=qc.out j (by omega) wr.drew (HST.out _ _ _ HJ.out (ah.refl wr []).drew)
    go_wp2_with fail
    go_still_tail 11,(by kernel_rfl)
    change wpList _ _ _ _ _ wr.drew;go_wp2_with fail
    go_at_call 52;refine hc.mono ?_;rintro e w1 ⟨⟨v,rfl⟩,hi⟩;have HN:=hide hi;clear hc hi;go_wp2;go_roundw
    case rel=>exact ⟨j+1,by omega,by go_num,HN⟩
    case measure=>simp [intOf]; omega
  . obtain rfl:j=4:=by omega
    have wrI:=HJ.out;clear hlt hj;have hc4:=qc.out 4 (by omega) wr.drew (HST.out _ _ _ wrI (ah.refl wr []).drew);go_wp2_with fail
    go_still_tail 7,(by kernel_rfl)
    change wpList _ _ _ _ _ wr.drew;go_wp2_with fail
    go_at_call 52;refine hc4.mono ?_;rintro e v4 ⟨⟨x4,rfl⟩,v4I⟩;clear hc4;have hc5:=qc.out 5 (by omega) v4.drew (HST.out _ _ _ v4I (ah.refl v4 []).drew);go_wp2_with fail
    go_still_tail 7,(by kernel_rfl)
    change wpList _ _ _ _ _ v4.drew;go_wp2_with fail
    go_at_call 52;refine hc5.mono ?_;rintro e v5 ⟨⟨x5,rfl⟩,v5I⟩;clear hc5;have hc6:=qc.out 6 (by omega) v5.drew (HST.out _ _ _ v5I (ah.refl v5 []).drew);go_wp2_with fail
    go_still_tail 7,(by kernel_rfl)
    change wpList _ _ _ _ _ v5.drew;go_wp2_with fail
    go_at_call 52;refine hc6.mono ?_;rintro e v6 ⟨⟨x6,rfl⟩,v6I⟩;clear hc6;have HN:=hide v6I;clear v6I wrI v4I v5I;go_wp2;refine bodyPost_end (results_none rfl _ _ _) rfl ⟨⟨_,rfl⟩,HN.out⟩
theorem YT {w:World} (a b kk:Nat) (Inv:Nat->World->Prop) (hst:∀ j w w',Inv j w->ah w w' []->Inv j w')
 (hdo:∀ j,j < 7->∀ w,Inv j w->Calls Tryz.prog 56 #[.pointer (some ⟨a,j,none⟩),.pointer (some ⟨b,j,none⟩),.pointer (some ⟨kk,0,none⟩)] w fun e w'=>(∃ v,e=.returned v)/\Inv (j+1) w') (h:Inv 0 w) :
 Calls Tryz.prog 51 #[.pointer (some ⟨a,0,none⟩),.pointer (some ⟨b,0,none⟩),.func (.func 56) #[] #[.pointer (some ⟨kk,0,none⟩)]] w fun e w'=>(∃ v,e=.returned v)/\Inv 7 w':=by
 have HST:=hide hst;have qc:=hide hdo;have HI:=hide h;clear hst hdo h;go_enter Tryz.func51,Tryz.ntmps51
 go_wp2_with fail
 go_loopw [6,7] (fun _ i wr=>∃ j:Nat,j<=4/\i=.int .i64 j/\Hid (Inv j wr)) (fun _ i _=>4 - (intOf i).toNat)
 case atStart=>exact ⟨0,Nat.zero_le _,rfl,HI⟩
 case round =>
  clear HI;obtain ⟨j,hj,rfl,HJ⟩:=hrel;by_cases hlt:j < 4
  . have hc:=qc.out j (by omega) wr.drew (HST.out _ _ _ HJ.out (ah.refl wr []).drew)
    go_wp2_with fail
    go_still_tail 11,(by kernel_rfl)
    change wpList _ _ _ _ _ wr.drew;go_wp2_with fail
    go_at_call 56;refine hc.mono ?_;rintro e w1 ⟨⟨v,rfl⟩,hi⟩;have HN:=hide hi;clear hc hi;go_wp2;go_roundw
    case rel=>exact ⟨j+1,by omega,by go_num,HN⟩
    case measure=>simp [intOf]; omega
  . obtain rfl:j=4:=by omega
    have wrI:=HJ.out;clear hlt hj;have hc4:=qc.out 4 (by omega) wr.drew (HST.out _ _ _ wrI (ah.refl wr []).drew);go_wp2_with fail
    go_still_tail 7,(by kernel_rfl)
    change wpList _ _ _ _ _ wr.drew;go_wp2_with fail
    go_at_call 56;refine hc4.mono ?_;rintro e v4 ⟨⟨x4,rfl⟩,v4I⟩;clear hc4;have hc5:=qc.out 5 (by omega) v4.drew (HST.out _ _ _ v4I (ah.refl v4 []).drew);go_wp2_with fail
    go_still_tail 7,(by kernel_rfl)
    change wpList _ _ _ _ _ v4.drew;go_wp2_with fail
    go_at_call 56;refine hc5.mono ?_;rintro e v5 ⟨⟨x5,rfl⟩,v5I⟩;clear hc5;have hc6:=qc.out 6 (by omega) v5.drew (HST.out _ _ _ v5I (ah.refl v5 []).drew);go_wp2_with fail
    go_still_tail 7,(by kernel_rfl)
    change wpList _ _ _ _ _ v5.drew;go_wp2_with fail
    go_at_call 56;refine hc6.mono ?_;rintro e v6 ⟨⟨x6,rfl⟩,v6I⟩;clear hc6;have HN:=hide v6I;clear v6I wrI v4I v5I;go_wp2;refine bodyPost_end (results_none rfl _ _ _) rfl ⟨⟨_,rfl⟩,HN.out⟩
def vI1 (a c kk j x u:Nat) (b:MP):Nat->Value
 | 0=>.pointer (some ⟨a,j,none⟩)
 | 1=>.pointer (some ⟨b.a,0,none⟩)
 | 2=>.pointer (some ⟨c,j,none⟩)
 | 3=>.pointer (some ⟨c,j,none⟩)
 | 4=>.int .i64 (x:Int)
 | 5=>.int .i64 (u:Int)
 | 6=>.pointer (some ⟨a,j,none⟩)
 | 7=>undef
 | _=>undef
def Ba (w:World) (F:List Nat) (b:MP) (s:KS) (a j x u:Nat) (cs:List Value) (k:Nat) (w':World):Prop:=match k with
 | 0=>ah w w' []
 | 1=>ah w w' F/\∃ F',Sub F' F w/\KR w' b (s.cell x) F'
 | _=>ah w w' (a :: F)/\(∃ F',Sub F' F w/\KR w' b (s.cell x) F')/\aC w' a 102 (cs.set j (.int .i64 (u:Int)))
theorem Wy {w:World} {b:MP} {s:KS} {F:List Nat} (h:KR w b s F) (a c kk j x:Nat) (cs ds:List Value) (ha:aC w a 102 cs) (hc:aC w c 102 ds) (hk:aC w kk 96 [.pointer (some ⟨b.a,0,none⟩)]) (haF:a∉F) (Rh:c∉F) (hkF:kk∉F) (hac:a≠c) (hak:a≠kk) (hQ:11<=a) (hj:j < 7) (hcl:cs.length=7) (hx:ds[j]?=some (.int .i64 (x:Int))) (hxl:x<=2048) (hcan:s.can 1=true) :
 Calls Tryz.prog 52 #[.pointer (some ⟨a,j,none⟩),.pointer (some ⟨c,j,none⟩),.pointer (some ⟨kk,0,none⟩)] w fun e w'=>(∃ v,e=.returned v)/\ah w w' (a :: F)/\(∃ F',Sub F' F w/\KR w' b (s.cell x) F')/\aC w' a 102 (cs.set j (.int .i64 (s.used:Int))):=by
 have fH:=hide (show Tryz.prog.follows .mixedOrders=true by kernel_rfl);have HG:=hide (fun w1 (hw:ah w w1 [])=>QX (h.cO hw) x hxl hcan);have QZ:=hide hc;have HKK:=hide hk;have HA:=hide ha;have HX:=hide hx;have HCL:=hide hcl;have HN:=hide (show a∉F/\c∉F/\kk∉F from ⟨haF,Rh,hkF⟩);have HQ:=hide hQ;have Zz:=hide h;clear h hc hk ha hx haF Rh hkF hcl hQ;generalize hu:s.used=u at *;clear hu;go_enter Tryz.func52,Tryz.ntmps52
 go_upto_region 0 with (fail)
 refine jD fH.out _ _ (fun (_:Nat)=>vI1 a c kk j x u b) (fun (q:Nat) L w'=>Ba w F b s a j x u cs (aP L [5,7]) w') 0 (by kernel_rfl) [] (by kernel_rfl) (fun p hp γ=>by simp at hp) (by kernel_rfl) ?step ?start ?fin ?ext
 case start=>exact (ah.refl w []).drew
 case ext =>
  intro γ L L' w' h hw;have e:aP L [5,7]=aP L' [5,7]:=Fz fun x hx=>h x (by simp at hx; rcases hx with rfl | rfl<;>decide);have hw':Ba w F b s a j x u cs (aP L [5,7]) w':=hw;rw [e] at hw';exact hw'
 case step =>
  intro i o ho L av w1 γ hdn ak hW hL hpre K Q hK
  match i,ho with
  | 0,ho =>
   injection ho with ho; subst ho;have b0:av.tmps.getD 0 undef=.pointer (some ⟨a,j,none⟩):=iL ak 0 (by kernel_rfl);clear ak;refine ay ?_ (hK γ w1 (fun _ _=>rfl) (by show Ba w F b s a j x u cs (aP _ [5,7]) w1; rw [gI (by decide)]; exact hW)); go_simp; rfl
  | 1,ho =>
   injection ho with ho; subst ho;have b2:av.tmps.getD 2 undef=.pointer (some ⟨kk,0,none⟩):=iL ak 2 (by kernel_rfl);clear ak
   have n5:L 5=false:=by
    cases h:L 5 with
    | false=>rfl
    | true=>have hx:L 1=true:=hdn 5 _ rfl h ⟨1,.data⟩ (by simp) rfl; rw [hL] at hx; cases hx
   have hS:Ba w F b s a j x u cs 0 w1:=by
    have:=hW;simp only [aP,n5] at this;exact this
   have hq:ah w w1 []:=hS;have y:=(HKK.out.aj hq (by simp)).cell' (i:=0) rfl;clear hS hq;refine ay ?_ (hK γ w1 (fun _ _=>rfl) (by show Ba w F b s a j x u cs (aP _ [5,7]) w1; rw [gI (by decide)]; exact hW)); go_simp; rfl
  | 2,ho =>
   injection ho with ho; subst ho;have b1:av.tmps.getD 1 undef=.pointer (some ⟨c,j,none⟩):=iL ak 1 (by kernel_rfl);clear ak;refine ay ?_ (hK γ w1 (fun _ _=>rfl) (by show Ba w F b s a j x u cs (aP _ [5,7]) w1; rw [gI (by decide)]; exact hW)); go_simp; rfl
  | 3,ho =>
   injection ho with ho; subst ho;have s2:=aO ak 7 2 (by kernel_rfl) (hpre ⟨2,.data⟩ (by simp) rfl);simp only [vI1] at s2;clear ak;refine ay ?_ (hK γ w1 (fun _ _=>rfl) (by show Ba w F b s a j x u cs (aP _ [5,7]) w1; rw [gI (by decide)]; exact hW)); go_simp; rfl
  | 4,ho =>
   injection ho with ho; subst ho;have s3:=aO ak 8 3 (by kernel_rfl) (hpre ⟨3,.data⟩ (by simp) rfl);simp only [vI1] at s3;clear ak
   have n5:L 5=false:=by
    cases h:L 5 with
    | false=>rfl
    | true=>have hx:L 4=true:=hdn 5 _ rfl h ⟨4,.data⟩ (by simp) rfl; rw [hL] at hx; cases hx
   have hS:Ba w F b s a j x u cs 0 w1:=by
    have:=hW;simp only [aP,n5] at this;exact this
   have hq:ah w w1 []:=hS;have y:=(QZ.out.aj hq (by simp)).cell' HX.out;clear hS hq;refine ay ?_ (hK γ w1 (fun _ _=>rfl) (by show Ba w F b s a j x u cs (aP _ [5,7]) w1; rw [gI (by decide)]; exact hW)); go_simp; rfl
  | 5,ho =>
   injection ho with ho; subst ho;have s1:=aO ak 6 1 (by kernel_rfl) (hpre ⟨1,.data⟩ (by simp) rfl);have s4:=aO ak 9 4 (by kernel_rfl) (hpre ⟨4,.data⟩ (by simp) rfl);simp only [vI1] at s1 s4;clear ak
   have n7:L 7=false:=by
    cases h:L 7 with
    | false=>rfl
    | true=>have hx:L 5=true:=hdn 7 _ rfl h ⟨5,.data⟩ (by simp) rfl; rw [hL] at hx; cases hx
   have hS:Ba w F b s a j x u cs 0 w1:=by
    have:=hW;simp only [aP,hL] at this;exact this
   have hq:ah w w1 []:=hS;refine iZ (f:=53) (args:=#[.pointer (some ⟨b.a,0,none⟩),.int .i64 (x:Int)]) ?_ (HG.out w1 hq) ?_
   . go_simp
   . rintro e w2 ⟨rfl,hc,F3,hs3,hk3⟩
     exact ⟨_,rfl,hK γ w2 (fun _ _=>rfl) (show Ba w F b s a j x u cs (aP (fun j=>if j=5 then true else L j) [5,7]) _ from by
      rw [show aP (fun j=>if j=5 then true else L j) [5,7]=1 by simp [aP,n7]]
      exact ⟨(hq.more (by simp)).trans hc (fun k hk=>.inl hk),F3,fun k hk=>(hs3 k hk).imp_right (fun h=>Nat.le_trans hq.size h),hk3⟩)⟩
  | 6,ho =>
   injection ho with ho; subst ho;have s0:=aO ak 5 0 (by kernel_rfl) (hpre ⟨0,.data⟩ (by simp) rfl);simp only [vI1] at s0;clear ak;refine ay ?_ (hK γ w1 (fun _ _=>rfl) (by show Ba w F b s a j x u cs (aP _ [5,7]) w1; rw [gI (by decide)]; exact hW)); go_simp; rfl
  | 7,ho =>
   injection ho with ho; subst ho;have s6:=aO ak 11 6 (by kernel_rfl) (hpre ⟨6,.data⟩ (by simp) rfl);have l5:=hpre ⟨5,.data⟩ (by simp) rfl;have s5:=aO ak 10 5 (by kernel_rfl) l5;simp only [vI1] at s6 s5;clear ak;have l5:L 5=true:=hpre ⟨5,.data⟩ (by simp) rfl
   have hS:Ba w F b s a j x u cs 1 w1:=by
    have:=hW;simp only [aP,l5,hL] at this;exact this
   obtain ⟨hc1,F3,hs3,hk3⟩:=hS;have hb:=HA.out.aj hc1 HN.out.1;obtain ⟨y,hy⟩:∃ y,cs[j]?=some y:=⟨cs[j]'(by have:=HCL.out; omega),by simp⟩
   have z:=hb.cell' hy;have f:=hb.frozen j;have hbl:=hb.lt;have hcs:ah w1 (w1.setCell ⟨a,j,none⟩ (.int .i64 (u:Int))) [a]:=(ah.refl w1 [a]).setCell _ _ (.inl (List.mem_singleton.2 rfl))
   have aql:a∉F3:=fun hm=>by
    rcases hs3 a hm with h | h
    . exact HN.out.1 h
    . have:=HA.out.lt; omega
   have hW2:Ba w F b s a j x u cs (aP (fun j=>if j=7 then true else L j) [5,7]) (w1.setCell ⟨a,j,none⟩ (.int .i64 (u:Int))):=by
    rw [show aP (fun j=>if j=7 then true else L j) [5,7]=2 by simp [aP,l5]];exact ⟨(hc1.more (fun k hk=>.inl (List.mem_cons_of_mem _ hk))).trans hcs (fun k hk=>.inl (by simp at hk; simp [hk])),⟨F3,hs3,hk3.aj hcs (fun k hk hm=>aql (by simp at hm; exact hm ▸ hk)) (fun k hk=>by have:=HQ.out; simp at hk; omega)⟩,hb.bC j _⟩
   clear hcs aql hb hy hk3 hs3 hc1;refine ER (w':=w1.setCell ⟨a,j,none⟩ (.int .i64 (u:Int))) ?_ (hK γ _ (fun _ _=>rfl) hW2);go_simp
  | _+8,ho=>cases ho
 case fin =>
 intro γ w9 hW;have hS:Ba w F b s a j x u cs 2 w9:=hW;obtain ⟨h1,h2,h3⟩:=hS;have H1:=hide h1;have H2:=hide h2;have H3:=hide h3;clear hW h1 h2 h3;rw [jX,iy,jH];simp only [List.map_cons,List.map_nil];go_wp2;refine bodyPost_end (results_none rfl _ _ _) rfl ⟨⟨_,rfl⟩,H1.out,H2.out,H3.out⟩
theorem WA {w:World} {b:MP} {s:KS} {F:List Nat} (h:KR w b s F) (a c kk j x y:Nat) (cs ds:List Value) (ha:aC w a 102 cs) (hc:aC w c 102 ds) (hk:aC w kk 96 [.pointer (some ⟨b.a,0,none⟩)]) (hx:cs[j]?=some (.int .i64 (x:Int))) (hy:ds[j]?=some (.int .i64 (y:Int))) (hxl:x<=2048) (hyl:y<=2048) (hn:s.nc<=799990) :
 Calls Tryz.prog 56 #[.pointer (some ⟨a,j,none⟩),.pointer (some ⟨c,j,none⟩),.pointer (some ⟨kk,0,none⟩)] w fun e w'=>(∃ v,e=.returned v)/\ah w w' F/\∃ F',Sub F' F w/\KR w' b (s.set x y) F':=by
 have hm:=ET (h.cO (ah.refl w []).drew) x y hxl hyl hn;have z1:=ha.cell' hx;have z2:=hc.cell' hy;have z3:=hk.cell' (i:=0) rfl;clear h ha hc hk hx hy;go_enter Tryz.func56,Tryz.ntmps56
 go_wp2_with fail
 go_still_tail 7,(by kernel_rfl)
 change wpList _ _ _ _ _ w.drew;go_wp2_with fail
 go_at_call 57;refine hm.mono ?_;rintro e w2 ⟨rfl,hc,F3,hs3,hk3⟩;have HC:=hide (((ah.refl w F).drew).trans hc (fun k hk=>.inl hk));have HS:=hide hs3;have HK:=hide hk3;clear hm hc hs3 hk3;go_wp2;refine bodyPost_end (results_none rfl _ _ _) rfl ⟨⟨_,rfl⟩,HC.out,F3,HS.out,HK.out⟩
end

section
open Go Go.RowKit Go.Deep Go.Maps Ab
attribute [local go_sem] Oper.semAt_some
def je:List Nat->List Int->List Int->List Int
 | a :: aS,x :: xs,ws=>je aS xs (ws.set a x)
 | _,_,ws=>ws
theorem Ik:∀ (aS:List Nat) (xs ws:List Int),(je aS xs ws).length=ws.length
 | [],_,_=>rfl
 | _ :: _,[],_=>rfl
 | a :: aS,x :: xs,ws=>by
  show (je aS xs (ws.set a x)).length=_;rw [Ik aS xs,List.length_set]
theorem FK:∀ (aS:List Nat) (xs ws:List Int) (a:Nat) (x:Int),aS.length=xs.length->je (aS ++ [a]) (xs ++ [x]) ws=(je aS xs ws).set a x
 | [],[],ws,a,x,_=>rfl
 | [],_ :: _,_,_,_,h=>by simp at h
 | _ :: _,[],_,_,_,h=>by simp at h
 | b :: aS,y :: xs,ws,a,x,h=>FK aS xs (ws.set b y) a x (by simpa using h)
theorem wU.keep {w w':World} {v:Value} {code data:List Int} {sec:List Bool} {ins outs:List Nat} (h:wU w v code data sec ins outs) (hc:ah w w' []):wU w' v code data sec ins outs:=by
 obtain ⟨c,d,se,i,o,rfl,h1,h2,h3,h4,h5⟩:=h;exact ⟨c,d,se,i,o,rfl,h1.keep hc,h2.keep hc,h3.keep hc,h4.keep hc,h5.keep hc⟩
theorem oh {w:World} {v:Value} {xs:List Value} (h:Sl w v xs):∃ A c,v=.slice A xs.length c/\∀ (j:Nat) (u:Value),xs[j]?=some u->∃ b off,A=some ⟨b,off,none⟩/\w.cell? ⟨b,off+j,none⟩=some u/\b < w.heap.size:=by
 obtain ⟨A,c,rfl,_⟩:=id h;exact ⟨A,c,rfl,fun j u hj=>h.at_ hj⟩
theorem ints_at {l:List Nat} {j a:Nat} (h:l[j]?=some a):(ints l)[j]?=some (.int .i64 (a:Int)):=by simp [ints,h]
theorem sO (l:List Nat):(ints l).length=l.length:=List.length_map ..
theorem sQ (l:List Int):(bI l).length=l.length:=List.length_map ..
theorem Jt {w:World} {base base' e size n:Nat} {v:Value} {xs:List Value} (h:w.ownsRow base e size v n xs) (hb:base'<=base):w.ownsRow base' e size v n xs:=by
 refine ⟨h.1,?_⟩;rcases h.2 with hn | ⟨g,cap,cur,rfl,hg,rest⟩
 . exact .inl hn
 . exact .inr ⟨g,cap,cur,rfl,Nat.le_trans hb hg,rest⟩
section
variable {w0 w:World} {c:Nat} {words:List Nat} {s:CS} {ws:List Int} {F:List Nat}
end
end

section
open Go Go.RowKit Go.Deep Go.Maps Ab
theorem aao:(Tryz.prog.info? 5).map (fun i=>(i.zero,i.size,i.bytes))=some (some (.int .u8 0),1,1):=by kernel_rfl
theorem aiP (n:Nat) (w:World) (hl:n<=500000):(Instr.makeSlice 62 (.int .i64 n) (.int .i64 n)).run Tryz.prog w=.ok (.slice (some ⟨w.heap.size,0,none⟩) n n) (w.alloc (.cells (zeros (.int .i32 0) n).toArray 21)):=by
 obtain ⟨i0,hi,hz0,hz1,hz2⟩:=info_parts tZ;have h:=run_makeSlice (P:=Tryz.prog) w 62 21 i0 (.int .i32 0) Tryz.underlying62 hi hz0 .i64 .i64 n n (by omega) (by omega) (by rw [hz1]; omega) (by rw [hz2]; omega) (by omega);rw [h,hz1,<- lW];simp [Value.cells]
def lG (l:List Nat) (j:Nat):List Value:=((l.take j).map fun n:Nat=>Value.int .i32 (n:Int)) ++ zeros (.int .i32 0) (l.length - j)
theorem afK (l:List Nat) (j:Nat) (h:j<=l.length):(lG l j).length=l.length:=by simp [lG,zeros]; omega
theorem afL (l:List Nat) (j x:Nat) (h:l[j]?=some x):(lG l j).set j (.int .i32 (x:Int))=lG l (j+1):=by
 obtain ⟨hj,hx⟩:=List.getElem?_eq_some_iff.1 h;unfold lG;have hl:((l.take j).map fun n:Nat=>Value.int .i32 (n:Int)).length=j:=by simp; omega
 rw [List.set_append_right _ _ (by omega),hl,Nat.sub_self,List.take_add_one,h];obtain ⟨m,hm⟩:∃ m,l.length - j=m+1:=⟨l.length - j - 1,by omega⟩
 rw [hm,show l.length - (j+1)=m by omega];show _ ++ (Value.int .i32 0 :: zeros _ m).set 0 _=_;simp
theorem afM (l:List Nat):lG l l.length=l.map fun n:Nat=>Value.int .i32 (n:Int):=by simp [lG,zeros]
theorem amY (n:Nat) (w:World) (hl:n<=500000):(Instr.makeSlice 29 (.int .i64 n) (.int .i64 n)).run Tryz.prog w=.ok (.slice (some ⟨w.heap.size,0,none⟩) n n) (w.alloc (.cells (zeros (.int .u8 0) n).toArray 5)):=by
 obtain ⟨i0,hi,hz0,hz1,hz2⟩:=info_parts aao;have h:=run_makeSlice (P:=Tryz.prog) w 29 5 i0 (.int .u8 0) Tryz.underlying29 hi hz0 .i64 .i64 n n (by omega) (by omega) (by rw [hz1]; omega) (by rw [hz2]; omega) (by omega);rw [h,hz1,<- lW];simp [Value.cells]
def qy (l:List Nat) (j:Nat):List Value:=((l.take j).map fun n:Nat=>Value.int .u8 (n:Int)) ++ zeros (.int .u8 0) (l.length - j)
theorem afN (l:List Nat) (j:Nat) (h:j<=l.length):(qy l j).length=l.length:=by simp [qy,zeros]; omega
theorem afO (l:List Nat) (j x:Nat) (h:l[j]?=some x):(qy l j).set j (.int .u8 (x:Int))=qy l (j+1):=by
 obtain ⟨hj,hx⟩:=List.getElem?_eq_some_iff.1 h;unfold qy;have hl:((l.take j).map fun n:Nat=>Value.int .u8 (n:Int)).length=j:=by simp; omega
 rw [List.set_append_right _ _ (by omega),hl,Nat.sub_self,List.take_add_one,h];obtain ⟨m,hm⟩:∃ m,l.length - j=m+1:=⟨l.length - j - 1,by omega⟩
 rw [hm,show l.length - (j+1)=m by omega];show _ ++ (Value.int .u8 0 :: zeros _ m).set 0 _=_;simp
theorem afP (l:List Nat):qy l l.length=l.map fun n:Nat=>Value.int .u8 (n:Int):=by simp [qy,zeros]
end

section
open Go Go.RowKit Go.Deep Go.Maps Ab
attribute [local go_sem] Oper.semAt_some
theorem WM {w:World} {v:Value} {l:List Nat} (h:Sl w v (fJ l)) (hb:∀ x∈l,x < 256) (hl:l.length<=10000) :
 Calls Tryz.prog 35 #[v] w fun e w'=>∃ u,e=.returned u/\ah w w' []/\Sl w' u (bI (l.map fun n:Nat=>(n:Int)))/\∀ A n c,u=.slice (some A) n c->w.heap.size<=A.block:=by
 obtain ⟨A,c,rfl,hx⟩:=oh h;have hln:(fJ l).length=l.length:=by simp [fJ]
 rw [hln];have hm1:=aiP l.length w (by omega);have HX:=hide hx;have HB:=hide hb;have hf0:lG l 0=zeros (.int .i32 0) l.length:=by simp [lG]
 have hbl:=aC.new w 21 (zeros (.int .i32 0) l.length);rw [<- hf0] at hbl;have yJ:=hide hbl;have Gl:=hide ((ah.refl w []).alloc (.cells (zeros (.int .i32 0) l.length).toArray 21));rw [<- hf0] at hm1 Gl;clear h hx hb hf0 hbl hln;go_enter Tryz.func35,Tryz.ntmps35
 go_wp2_with fail
 clear hm1;generalize w.alloc (.cells (lG l 0).toArray 21)=W2 at *;generalize hM:w.heap.size=M at *;have Rq:=hide hM;go_loopw [4,5,11] (fun _ _ i wr=>∃ j:Nat,j<=l.length/\i=.int .i64 j/\Hid (ah w wr [])/\Hid (aC wr M 21 (lG l j))) (fun _ _ i _=>l.length - (intOf i).toNat)
 case atStart=>exact ⟨0,Nat.zero_le _,rfl,Gl,yJ⟩
 case round =>
  clear Gl yJ;obtain ⟨j,hj,rfl,HC,HK⟩:=hrel;by_cases hlt:j < l.length
  . obtain ⟨x,mO⟩:∃ x,l[j]?=some x:=⟨l[j],by simp [hlt]⟩
    obtain ⟨b,o,rfl,hcx,hbb⟩:=HX.out j _ (show (fJ l)[j]?=some (.int .u8 (x:Int)) by simp [fJ,mO]);have c1:=HC.out.cell hcx (by simp);have hx256:=HB.out x (List.mem_of_getElem? mO);have hwr:IntKind.i32.wrap (x:Int)=(x:Int):=by rw [IntKind.wrap_i32]; omega
    obtain ⟨y,hy⟩:∃ y,(lG l j)[j]?=some y:=⟨(lG l j)[j]'(by rw [afK l j hj]; exact hlt),by simp⟩
    have z:=HK.out.cell' hy;have f:=HK.out.frozen j;have hbl:=HK.out.lt;have hset:=afL l j x mO;have HNX:=hide (show aC (wr.setCell ⟨M,j,none⟩ (.int .i32 (x:Int))) M 21 (lG l (j+1)) from hset ▸ HK.out.bC j (.int .i32 (x:Int)));have HCS:=hide (show ah w (wr.setCell ⟨M,j,none⟩ (.int .i32 (x:Int))) [] from HC.out.trans ((ah.refl wr [M]).setCell _ _ (.inl (List.mem_singleton.2 rfl))) (fun k hk=>.inr (by simp at hk; omega)));clear hcx mO hy hset;go_wp2;go_roundw
    case rel=>exact ⟨j+1,by omega,by go_num,HCS,HNX⟩
    case measure=>simp [intOf]; omega
  . have hjl:j=l.length:=by omega
    subst hjl;rw [afM] at HK
    have hin:Sl wr (.slice (some ⟨M,0,none⟩) l.length l.length) (bI (l.map fun n:Nat=>(n:Int))):=by
     have:=Sl.blk' (n:=l.length) (c:=l.length) HK.out (by simp) (Nat.le_refl _)
     simpa [bI,List.map_map,Function.comp_def] using this
    have HIN:=hide hin;clear hin;go_wp2;go_ret;exact ⟨_,rfl,HC.out,HIN.out,fun A n c h=>by injection h with h; injection h with h; subst h; exact Nat.le_of_eq Rq.out⟩
theorem WO {w:World} {v:Value} {l:List Nat} (h:Sl w v (bI (l.map fun n:Nat=>(n:Int)))) (hb:∀ x∈l,x < 256) (hl:l.length<=10000) :
 Calls Tryz.prog 33 #[v] w fun e w'=>∃ u,e=.returned u/\ah w w' []/\Sl w' u (fJ l)/\∀ A n c,u=.slice (some A) n c->w.heap.size<=A.block:=by
 obtain ⟨A,c,rfl,hx⟩:=oh h;have hln:(bI (l.map fun n:Nat=>(n:Int))).length=l.length:=by simp [bI]
 rw [hln];have hm1:=amY l.length w (by omega);have HX:=hide hx;have HB:=hide hb;have hf0:qy l 0=zeros (.int .u8 0) l.length:=by simp [qy]
 have hbl:=aC.new w 5 (zeros (.int .u8 0) l.length);rw [<- hf0] at hbl;have yJ:=hide hbl;have Gl:=hide ((ah.refl w []).alloc (.cells (zeros (.int .u8 0) l.length).toArray 5));rw [<- hf0] at hm1 Gl;clear h hx hb hf0 hbl hln;go_enter Tryz.func33,Tryz.ntmps33
 go_wp2_with fail
 clear hm1;generalize w.alloc (.cells (qy l 0).toArray 5)=W2 at *;generalize hM:w.heap.size=M at *;have Rq:=hide hM;go_loopw [4,5,11] (fun _ _ i wr=>∃ j:Nat,j<=l.length/\i=.int .i64 j/\Hid (ah w wr [])/\Hid (aC wr M 5 (qy l j))) (fun _ _ i _=>l.length - (intOf i).toNat)
 case atStart=>exact ⟨0,Nat.zero_le _,rfl,Gl,yJ⟩
 case round =>
  clear Gl yJ;obtain ⟨j,hj,rfl,HC,HK⟩:=hrel;by_cases hlt:j < l.length
  . obtain ⟨x,mO⟩:∃ x,l[j]?=some x:=⟨l[j],by simp [hlt]⟩
    obtain ⟨b,o,rfl,hcx,hbb⟩:=HX.out j _ (show (bI (l.map fun n:Nat=>(n:Int)))[j]?=some (.int .i32 (x:Int)) by simp [bI,mO]);have c1:=HC.out.cell hcx (by simp);have hx256:=HB.out x (List.mem_of_getElem? mO);have hwr:IntKind.u8.wrap (x:Int)=(x:Int):=by rw [IntKind.wrap_u8]; omega
    obtain ⟨y,hy⟩:∃ y,(qy l j)[j]?=some y:=⟨(qy l j)[j]'(by rw [afN l j hj]; exact hlt),by simp⟩
    have z:=HK.out.cell' hy;have f:=HK.out.frozen j;have hbl:=HK.out.lt;have hset:=afO l j x mO;have HNX:=hide (show aC (wr.setCell ⟨M,j,none⟩ (.int .u8 (x:Int))) M 5 (qy l (j+1)) from hset ▸ HK.out.bC j (.int .u8 (x:Int)));have HCS:=hide (show ah w (wr.setCell ⟨M,j,none⟩ (.int .u8 (x:Int))) [] from HC.out.trans ((ah.refl wr [M]).setCell _ _ (.inl (List.mem_singleton.2 rfl))) (fun k hk=>.inr (by simp at hk; omega)));clear hcx mO hy hset;go_wp2;go_roundw
    case rel=>exact ⟨j+1,by omega,by go_num,HCS,HNX⟩
    case measure=>simp [intOf]; omega
  . have hjl:j=l.length:=by omega
    subst hjl;rw [afP] at HK
    have hin:Sl wr (.slice (some ⟨M,0,none⟩) l.length l.length) (fJ l):=by
     have:=Sl.blk' (n:=l.length) (c:=l.length) HK.out (by simp) (Nat.le_refl _)
     simpa [fJ,List.map_map,Function.comp_def] using this
    have HIN:=hide hin;clear hin;go_wp2;go_ret;exact ⟨_,rfl,HC.out,HIN.out,fun A n c h=>by injection h with h; injection h with h; subst h; exact Nat.le_of_eq Rq.out⟩
def yC:Value->List Nat
 | .agg cs=>cs.toList.filterMap Xi.dK
 | _=>[]
theorem OM:∀ (aS bS:List Nat) (xs ws:List Int),xs.length<=aS.length->je (aS ++ bS) xs ws=je aS xs ws
 | [],bS,[],ws,_=>by cases bS<;>rfl
 | [],_,_ :: _,_,h=>by simp at h
 | _ :: _,_,[],_,_=>rfl
 | a :: aS,bS,x :: xs,ws,h=>OM aS bS xs (ws.set a x) (by simpa using h)
section
variable {w:World} {c:Nat} {words:List Nat} {s:CS} {ws:List Int} {F:List Nat}
theorem Iw (h:fK w c words s ws F) (hg:qg w) {v vin:Value} {code data:List Int} {sec:List Bool} {ins outs:List Nat} {xs:List Int} (him:wU w v code data sec ins outs) (mY:∀ k∈yC v,k∉F) (hin:Sl w vin (bI xs)) (hfin:∀ k,Xi.dK vin=some k->k∉F) (hl:xs.length<=ins.length)
 (hins:∀ a∈ins,a < ws.length) (hil:ins.length<=2048) (hol:outs.length<=2048) {mem:List Wd} (hm:mem.map (·.v)=je ins xs ws) {N:Nat} {m':Ma} (hr:Ab.Reach (Nx words) N (uq mem) m') (hst:m'.st=1) (hwl:words.length<=60000) (hN:N<=1048000)
 {vals:List Int} (hvl:vals.length=outs.length) (hv:∀ (j a:Nat) (x:Int),outs[j]?=some a->vals[j]?=some x->(kR m')[a]?=some x) :
 Calls Tryz.prog 34 #[.pointer (some ⟨c,0,none⟩),v,vin] w fun e w'=>∃ u F',e=.returned u/\ah w w' F/\Sub F' F w/\fK w' c words (iM m') (kR m') F'/\w'.ownsRow w.heap.size 21 1 u outs.length (bI vals):=by
 obtain ⟨i0,hi0,hz0,hz1,hz2⟩:=info_parts tZ;obtain ⟨vc,vd,vs,vi,vo,rfl,g1,g2,g3,g4,g5⟩:=him;obtain ⟨Ac,cc,rfl,_⟩:=id g1;obtain ⟨Ad,cd,rfl,_⟩:=id g2;obtain ⟨As,cs,rfl,_⟩:=id g3;obtain ⟨Ai,ci,rfl,hi⟩:=oh g4;obtain ⟨Ao,co,rfl,ho⟩:=oh g5;obtain ⟨Ax,cx,rfl,hx⟩:=oh hin;have HFI:=hide (show ∀ b off,Ai=some ⟨b,off,none⟩->b∉F from fun b off e=>mY b (by subst e; simp [yC,Xi.dK]));have HFO:=hide (show ∀ b off,Ao=some ⟨b,off,none⟩->b∉F from fun b off e=>mY b (by subst e; simp [yC,Xi.dK]));have UU:=hide (show ∀ b off,Ax=some ⟨b,off,none⟩->b∉F from fun b off e=>hfin b (by subst e; rfl));have HL:=hide hl;simp only [sQ,sO] at *;clear hl;have H:=hide h;have HI:=hide hi;have HO:=hide ho;have HX:=hide hx;have awo:=hide hins;have HV:=hide hv;have HM:=hide hm;have HR:=hide hr;have HQ:=hide hg.size;clear h mY hfin hi ho hx hins hv hm hr g1 g2 g3 g4 g5 hin hg;go_enter Tryz.func34,Tryz.ntmps34
 have hq:=aC.new w 66 [.slice Ac (jo code).length cc,.slice Ad data.length cd,.slice As (bools sec).length cs,.slice Ai ins.length ci,.slice Ao outs.length co];have HQI:=hide hq;have hHF:=fun k hk=>H.out.lt k hk;have yE:=hide hHF;clear hq hHF;go_wp2_with fail
 go_loopw [7,8,17] (fun _ _ i wr=>∃ j:Nat,j<=ins.length/\i=.int .i64 j/\Hid (ah w wr F)/\Hid (fK wr c words s (je (ins.take j) (xs.take j) ws) F)/\Hid (aC wr w.heap.size 66 [.slice Ac (jo code).length cc,.slice Ad data.length cd,.slice As (bools sec).length cs,.slice Ai ins.length ci,.slice Ao outs.length co])) (fun _ _ i _=>ins.length - (intOf i).toNat)
 case atStart=>exact ⟨0,Nat.zero_le _,rfl,hide ((ah.refl w F).alloc _),hide (by simp only [List.take_zero]; exact H.out.cO ((ah.refl w []).alloc _)),HQI⟩
 case round =>
  obtain ⟨j,hj,rfl,HC,HK,HB⟩:=hrel;by_cases hlt:j < ins.length
  . obtain ⟨a,hja⟩:∃ a,ins[j]?=some a:=⟨ins[j],by simp [hlt]⟩
    by_cases hlx:j < xs.length
    . obtain ⟨x,mO⟩:∃ x,xs[j]?=some x:=⟨xs[j]'hlx,by simp⟩
      obtain ⟨bi,oi,rfl,hci,hbi⟩:=HI.out j _ (ints_at hja);obtain ⟨bx,ox,rfl,hcx,hbx⟩:=HX.out j _ (show (bI xs)[j]?=some (.int .i32 x) by simp [bI,mO]);have ci:=HC.out.cell hci (HFI.out _ _ rfl);have cx':=HC.out.cell hcx (UU.out _ _ rfl);have hpk:=JX HK.out a x (by rw [Ik]; exact awo.out a (List.mem_of_getElem? hja))
      have hset:(je (ins.take j) (xs.take j) ws).set a x=je (ins.take (j+1)) (xs.take (j+1)) ws:=by
       rw [List.take_add_one,hja,List.take_add_one,mO];exact (FK _ _ _ a x (by simp; omega)).symm
      rw [hset] at hpk;clear hset hci hcx hja mO;go_wp2_with fail
      go_at_call 26;refine hpk.mono ?_;rintro e w2 ⟨rfl,hc2,hk2⟩;have HC2:=hide hc2;have nS:=hide hk2;clear hc2 hk2 hpk;go_wp2;go_roundw
      case rel=>exact ⟨j+1,by omega,by go_num,hide (HC.out.trans HC2.out (fun k hk=>.inl hk)),nS,hide (HB.out.aj HC2.out (fun hm=>by have:=yE.out _ hm; omega))⟩
      case measure=>simp [intOf]; omega
    . have hset : je (ins.take j) (xs.take j) ws=je (ins.take (j+1)) (xs.take (j+1)) ws := by
       rw [List.take_of_length_le (show xs.length<=j by omega),List.take_of_length_le (show xs.length<=j+1 by omega),List.take_add_one];exact (OM _ _ xs ws (by simp; omega)).symm
      obtain ⟨bi,oi,rfl,hci,hbi⟩:=HI.out j _ (ints_at hja);have ci:=HC.out.cell hci (HFI.out _ _ rfl);have HK':=hide (hset ▸ HK.out);clear hset hci hja;go_wp2;go_roundw
      case rel=>exact ⟨j+1,by omega,by go_num,HC,HK',HB⟩
      case measure=>simp [intOf]; omega
  . have hjl:j=ins.length:=by omega
    subst hjl;rw [List.take_length,List.take_of_length_le HL.out] at HK;have hbg:=Ij HK.out;have dG:=HC;have HB1:=HB;go_wp2_with fail
    go_at_call 27;refine hbg.mono ?_;rintro e w2 ⟨rfl,hc2,F2,hs2,hk2⟩;have hc12:ah w w2 F:=HC.out.trans hc2 (fun k hk=>.inl hk);have hb2:=HB.out.aj hc2 (fun hm=>by have:=yE.out _ hm; omega);have arZ:Sub F2 F w:=fun k hk=>(hs2 k hk).imp_right (fun h=>Nat.le_trans HC.out.size h);have hq2:w.heap.size∉F2:=rD hs2 (fun hm=>by have:=yE.out _ hm; omega) HB.out.lt;have hrn:=Oe hk2 (by have:=HQ.out; have:=hc12.size; omega) HM.out HR.out hst hwl hN;have HC2:=hide hc12;have HB2:=hide hb2;have HS2:=hide arZ;have ZF:=hide hq2;clear hc2 hs2 hk2 hbg hc12 hb2 arZ hq2;go_wp2_with fail
    go_at_call 28;refine hrn.mono ?_;rintro e w3 ⟨⟨n,rfl⟩,hc3,F3,hs3,hk3⟩;have iR:Hid (ah w w3 F):=hide (HC2.out.trans hc3 (fun k hk=>HS2.out k hk));have HB3:=hide (HB2.out.aj hc3 ZF.out)
    have G5:Hid (Sub F3 F w):=hide (fun k hk=>by
     rcases hs3 k hk with h | h
     . exact HS2.out k h
     . exact .inr (Nat.le_trans HC2.out.size h))
    have AA:=hide hk3;clear hc3 hs3 hk3 hrn;have y4:=HB3.out.cell' (i:=4) rfl;go_wp2_with fail
    go_loopw [9,11,12,13,41] (fun v _ _ _ i wr=>∃ j:Nat,j<=outs.length/\i=.int .i64 j/\Hid (ah w3 wr [])/\Hid (wr.ownsRow w3.heap.size 21 1 v j (bI (vals.take j)))) (fun _ _ _ _ i _=>outs.length - (intOf i).toNat)
    case atStart=>exact ⟨0,Nat.zero_le _,rfl,hide (ah.refl _ _),hide (World.ownsRow_nil _ _ _ _)⟩
    case round =>
     obtain ⟨j,hj,rfl,HR3,Ag⟩:=hrel;by_cases hlt:j < outs.length
     . obtain ⟨a,hja⟩:∃ a,outs[j]?=some a:=⟨outs[j],by simp [hlt]⟩
       obtain ⟨x,mO⟩:∃ x,vals[j]?=some x:=⟨vals[j]'(by omega),by simp⟩
       obtain ⟨bo,oo,rfl,hco,hbo⟩:=HO.out j _ (ints_at hja);have co':=HR3.out.cell (iR.out.cell hco (HFO.out _ _ rfl)) (by simp);have hld:=JY (AA.out.cO HR3.out) a x (HV.out j a x hja mO)
       have htk:bI (vals.take (j+1))=bI (vals.take j) ++ [.int .i32 x]:=by
        rw [List.take_add_one,mO];simp [bI]
       have Wx:=hide htk;obtain ⟨V,vc,rfl⟩:=aY Ag.out;have hzw:w.heap.size<=w3.heap.size:=iR.out.size;have HZW:=hide hzw;clear hja mO hco htk hzw;go_wp2_with fail
       go_at_call 29;refine hld.mono ?_;rintro e w4 ⟨rfl,hc4⟩;have gV:=hide (HR3.out.trans hc4 (by simp));have mg:=hide (aH Ag.out hc4 (by simp));clear hc4 hld;go_wp2_with (at_builtin; refine wpList_append_own _ rfl _ _ 62 rfl w3.heap.size 21 i0 (.int .i32 0) 1 4 Tryz.underlying62 hi0 hz0 hz1 hz2 rfl (by decide) _ j _ rfl (mg.out.alloc _) ⟨w4.heap.size,0,none⟩ 1 1 [.int .i32 x] rfl rfl ?c1 ?c2 ?c3 ?c4 ?c5 ?_)
       case c1 =>
        intro j u hj
        match j,hj with
        | 0,hj=>simp at hj; subst hj; simp [Addr.add]
       case c2=>intro u hu; simp at hu; subst hu; rfl
       case c3=>unfold maxLen; omega
       case c4=>omega
       case c5=>have:=gV.out.size; have:=HZW.out; simp; omega
       intro v' w5 hown' hgrow _;have HG:Hid (ah w3 w5 []):=hide ((gV.out.alloc _).trans (D':=(Value.slice V j vc).ownBlock.toList) (ah.eF hgrow (fun k hk=>.inl (by simp [hk]))) (fun k hk=>.inr (mg.out.lt k (by simpa using hk)).1));have uP:=hide hown';obtain ⟨A6,c6,hv'⟩:=aY hown';clear hown' hgrow;go_wp2;go_roundw
       case rel=>exact ⟨j+1,by omega,by go_num,HG,hide (by rw [Wx.out]; exact uP.out)⟩
       case measure=>simp [intOf]; omega
     . have hjl:j=outs.length:=by omega
       subst hjl;go_wp2;go_ret;have ho:=Ag.out;rw [List.take_of_length_le (by omega)] at ho;exact ⟨_,F3,rfl,iR.out.trans HR3.out (by simp),G5.out,AA.out.cO HR3.out,Jt ho iR.out.size⟩
end
end

section
open Go Go.RowKit Go.Deep Go.Maps Ab
attribute [local go_sem] Oper.semAt_some
theorem Qu {w:World} (hq:11<=w.heap.size) {v:Value} {l:List Nat} (h:Sl w v (bI (l.map fun n:Nat=>(n:Int)))) (hb:∀ x∈l,x < 256) (hl:l.length<=100000):Calls Tryz.prog 30 #[v] w fun e w'=>∃ u,e=.returned (.tuple #[u,.bool true])/\ah w w' []/\w'.ownsRow w.heap.size 5 1 u l.length (fJ l):=by
 obtain ⟨i0,hi0,hz0,hz1,hz2⟩:=info_parts aao;obtain ⟨A,c,rfl,hx⟩:=oh h;have hln:(bI (l.map fun n:Nat=>(n:Int))).length=l.length:=by simp [bI]
 rw [hln];have HX:=hide hx;have HB:=hide hb;clear h hx hb hln;go_enter Tryz.func30,Tryz.ntmps30
 go_wp2_with fail
 go_loopw [4,5] (fun v i wr=>∃ j:Nat,j<=l.length/\i=.int .i64 j/\Hid (ah w wr [])/\Hid (wr.ownsRow w.heap.size 5 1 v j (fJ (l.take j)))) (fun _ i _=>l.length - (intOf i).toNat)
 case atStart=>exact ⟨0,Nat.zero_le _,rfl,hide (ah.refl _ _),hide (World.ownsRow_nil _ _ _ _)⟩
 case round =>
  obtain ⟨j,hj,rfl,HC,HO⟩:=hrel;by_cases hlt:j < l.length
  . obtain ⟨x,mO⟩:∃ x,l[j]?=some x:=⟨l[j],by simp [hlt]⟩
    obtain ⟨b,o,rfl,hcx,hbb⟩:=HX.out j _ (show (bI (l.map fun n:Nat=>(n:Int)))[j]?=some (.int .i32 (x:Int)) by simp [bI,mO]);have c1:=HC.out.cell hcx (by simp);have hx256:=HB.out x (List.mem_of_getElem? mO);have hwr:IntKind.u8.wrap (x:Int)=(x:Int):=by rw [IntKind.wrap_u8]; omega
    have q1:decide ((x:Int) < 0)=false:=decide_eq_false (by omega);have q2:decide ((x:Int) > 255)=false:=decide_eq_false (by omega)
    have Wx:=hide (show fJ (l.take (j+1))=fJ (l.take j) ++ [.int .u8 (x:Int)] from by
     rw [List.take_add_one,mO]
     simp [fJ])
    obtain ⟨V,vc,rfl⟩:=aY HO.out;clear hcx mO;go_wp2_with (at_builtin; refine wpList_append_own _ rfl _ _ 29 rfl w.heap.size 5 i0 (.int .u8 0) 1 1 Tryz.underlying29 hi0 hz0 hz1 hz2 rfl (by decide) _ j _ rfl (HO.out.alloc _) ⟨wr.heap.size,0,none⟩ 1 1 [.int .u8 (x:Int)] rfl rfl ?c1 ?c2 ?c3 ?c4 ?c5 ?_)
    case c1 =>
     intro j u hj
     match j,hj with
     | 0,hj=>simp at hj; subst hj; simp [Addr.add]
    case c2=>intro u hu; simp at hu; subst hu; rfl
    case c3=>unfold maxLen; omega
    case c4=>omega
    case c5=>have:=HC.out.size; simp; omega
    intro v' w5 hown' hgrow _;have HG:Hid (ah w w5 []):=hide ((HC.out.alloc _).trans (D':=(Value.slice V j vc).ownBlock.toList) (ah.eF hgrow (fun k hk=>.inl (by simp [hk]))) (fun k hk=>.inr (HO.out.lt k (by simpa using hk)).1));have uP:=hide hown';obtain ⟨A6,c6,hv'⟩:=aY hown';clear hown' hgrow;go_wp2;go_roundw
    case rel=>exact ⟨j+1,by omega,by go_num,HG,hide (by rw [Wx.out]; exact uP.out)⟩
    case measure=>simp [intOf]; omega
  . have hjl:j=l.length:=by omega
    subst hjl;go_wp2;go_ret2;have ho:=HO.out;rw [List.take_of_length_le (Nat.le_refl _)] at ho;exact ⟨_,rfl,HC.out,ho⟩
structure Way (words:List Nat) (data:List Int) (ins outs:List Nat) (xs vals:List Int) (ks:List Mk):Prop where
 enc:(words.map iH).map encI=words.map fun n:Nat=>(n:Int)
 chk:∀ i∈words.map iH,jU i=0
 wl:words.length<=16384
 dl:data.length<=2048
 il:ins.length<=2048
 ol:outs.length<=2048
 xl:xs.length=ins.length
 ax_:∀ a∈ins,a < data.length
 vl:vals.length=outs.length
 k0:0 < ks.length
 kl:ks.length<=1048576
 run:∃ mem N m',mem.map (·.v)=je ins xs data/\Ab.Reach (Nx words) N (uq mem) m'/\m'.st=1/\N<=1048000/\m'.ks=ks/\(∀ (j a:Nat) (x:Int),outs[j]?=some a->vals[j]?=some x->(kR m')[a]?=some x)
section
variable {w:World} {words:List Nat} {data:List Int} {ins outs:List Nat} {xs vals:List Int} {ks:List Mk}
end
end

section
open Go Go.RowKit Go.Deep Go.Maps Ab
attribute [local go_sem] Oper.semAt_some
theorem IE:∀ (l:List (Int × Int × Int)) (j:Nat) (p:Int × Int × Int),l[j]?=some p->(dY l)[j * 3]?=some (.int .i64 p.1)/\(dY l)[j * 3+1]?=some (.int .i64 p.2.1)/\(dY l)[j * 3+2]?=some (.int .i64 p.2.2)
 | [],j,p,h=>by simp at h
 | q :: l,0,p,h=>by
  simp at h; subst h;exact ⟨rfl,rfl,rfl⟩
 | q :: l,j+1,p,h=>by
  have:=IE l j p (by simpa using h);have e:dY (q :: l)=.int .i64 q.1 :: .int .i64 q.2.1 :: .int .i64 q.2.2 :: dY l:=rfl;rw [e,show (j+1) * 3=j * 3+1+1+1 from by omega]
  simpa using this
theorem agX (ks:List Mk) (h:∀ k∈ks,k.co<=3) (j:Nat):0<=gJ (ks.take j)/\gJ (ks.take j)<=3 * (j:Int):=by
 have:=zB (ks.take j) (fun k hk=>h k (List.mem_of_mem_take hk));have hl:(ks.take j).length<=j:=by simp; omega
 omega
section
variable {w:World} {b:Nat} {v:Value} {ks:List Mk}
theorem SI (h:w.ownsRow b 82 3 v ks.length (dY (ks.map AX))) (h3:∀ k∈ks,k.co<=3) (h0:0 < ks.length) (hl:ks.length<=1048576) :
 Calls Tryz.prog 10 #[v] w fun e w'=>e=.returned (.int .i64 (gJ ks))/\ah w w' []:=by
 obtain ⟨A,c,rfl,hx⟩:=oL h;obtain ⟨g,rfl,hgl,hgb,hcells⟩:=hx h0;have HX:=hide hcells;have H3:=hide h3;clear h hx hcells h3;go_enter Tryz.func10,Tryz.ntmps10
 go_wp2_with fail
 go_loopw [3,4] (fun s i wr=>∃ j:Nat,j<=ks.length/\i=.int .i64 j/\s=.int .i64 (gJ (ks.take j))/\Hid (ah w wr [])) (fun _ i _=>ks.length - (intOf i).toNat)
 case atStart=>exact ⟨0,Nat.zero_le _,rfl,rfl,hide (ah.refl w [])⟩
 case round =>
  obtain ⟨j,hj,rfl,rfl,HC⟩:=hrel;by_cases hlt:j < ks.length
  . obtain ⟨k,hk⟩:∃ k,ks[j]?=some k:=⟨ks[j],by simp [hlt]⟩
    have hc:wr.cell? ⟨g,j * 3+2,none⟩=some (.int .i64 (k.co:Int)):=HC.out.cell (HX.out _ _ (IE (ks.map AX) j (AX k) (by simp [hk])).2.2) (by simp);have b1:=agX ks H3.out j;have hk3:k.co<=3:=H3.out k (List.mem_of_getElem? hk)
    have hs:gJ (ks.take (j+1))=gJ (ks.take j)+(k.co:Int):=by
     rw [List.take_add_one,hk];exact HY _ _
    have HS:=hide hs;clear hs hk;have hw:wrap64 (gJ (ks.take j)+(k.co:Int))=gJ (ks.take j)+(k.co:Int):=by unfold wrap64; omega
    go_wp2;go_roundw
    case rel=>exact ⟨j+1,by omega,by go_num,by rw [HS.out],HC⟩
    case measure=>simp [intOf]; omega
  . have hjl:j=ks.length:=by omega
    subst hjl;rw [List.take_length];go_wp2;go_ret;exact ⟨rfl,HC.out⟩
