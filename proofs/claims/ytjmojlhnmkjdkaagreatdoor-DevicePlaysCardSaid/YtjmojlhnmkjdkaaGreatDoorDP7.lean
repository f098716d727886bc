/- Texts of this claim, side by side. -/
import Derived.Test.YtjmojlhnmkjdkaaGreatDoorDP4
import Derived.Test.YtjmojlhnmkjdkaaGreatDoorDP5
import Derived.Test.YtjmojlhnmkjdkaaGreatDoorGloD
set_option linter.unusedVariables false
set_option maxRecDepth 100000
set_option maxHeartbeats 8000000
namespace Go.Proofs.YtjmojlhnmkjdkaaGreatDoor
section
open Go.RowKit Go.Deep Go.Maps Ab
attribute [local go_sem] Oper.semAt_some
def PV (name:Nat) (at_ len:Nat) (sec:Bool):List Value:=[bH (iL name),.int .i64 at_,.int .i64 len,.bool sec]
def dH:List (Nat×Nat×Bool)->Nat->List Value
 | [],_=>[]
 | (k,n,b)::l,used=>dH l (used - n)++PV k (used - n) n b
def ints(l:List Nat):List Value:=l.map fun n:Nat=>.int .i64 (n:Int)
theorem Q_(l:List Nat)(n:Nat):ints (l++[n])=ints l++[.int .i64 (n:Int)]:=by simp [ints]
theorem J6(l l':List Nat):ints (l++l')=ints l++ints l':=by simp [ints]
def findD(l:List (Nat×Int))(a:Int):Option Int:=match l with
 | []=>none
 | (k,x)::l=>if(k:Int)=a then some x else findD l a
def uS(d:List (Nat×Int)):Lit->Option Lit
 | .int .i64 a=>(findD d a).map (.int .i32)
 | _=>none
def oJ(d:List (Int×Nat)):Lit->Option Lit
 | .int .i32 n=>(zl d n).map fun a:Nat=>.int .i64 (a:Int)
 | _=>none
structure _root_.Go.Proofs.YtjmojlhnmkjdkaaGreatDoor.Ab.KS.WF (s:KS):Prop where
 nc:s.nc=s.rc.length
 used:s.used<=2048
 names:s.names<=100000
 cap:s.rr.length<=s.names
 reg:∀ p∈s.rr,p.1<=s.names
 nt:s.nt=s.rt.length
 rt:s.rt.length<=s.used
 code:s.nc<=800000
 defs:s.rd.length<=s.names
 lab:∀ p∈s.rd,p.1<=s.names
 uses:s.ru.length<=s.nc
 data:s.data.length<=s.used
 cons:s.cons.length<=s.used
 ri:s.ri.length<=s.used
 ro:s.ro.length<=2048
 dep:s.depth<=11
structure PL (w:World) (pp:Nat) (rv:Value) (used:Nat) (rr:List (Nat×Nat×Bool)):Prop where
 blk:aC w pp 219 [.int .i64 2048,.int .i64 used,rv,.bool true]
 row:w.ownsRow 0 247 4 rv rr.length (dH rr used)
structure KP where
 bb:Nat
 pp:Nat
 md:Nat
 ms:Nat
 mc:Nat
 tv:Value
 iv:Value
 ov:Value
 rv:Value
 FB:List Nat
 nd:Nat
 ns:Nat
 l7:Nat
 fs:Lit->Option Lit
def KP.part (b:Nat) (p:KP):Nat->List Nat
 | 0=>[b]
 | 1=>p.FB
 | 2=>[p.pp]
 | 3=>[p.md]
 | 4=>[p.ms]
 | 5=>[p.mc]
 | 6=>p.tv.ownBlock.toList
 | 7=>p.iv.ownBlock.toList
 | 8=>p.ov.ownBlock.toList
 | 9=>p.rv.ownBlock.toList
 | _=>[]
def KP.foot(b:Nat)(p:KP):List Nat:=[b]++(p.FB++([p.pp]++([p.md]++([p.ms]++([p.mc]++(p.tv.ownBlock.toList++(p.iv.ownBlock.toList++(p.ov.ownBlock.toList++p.rv.ownBlock.toList))))))))
theorem KP.bg {b:Nat} {p:KP} {i k:Nat} (h:k∈p.part b i):k∈p.foot b:=by
 unfold KP.foot;simp only [List.mem_append];rcases i with _ | _ | _ | _ | _ | _ | _ | _ | _ | _ | i
 . exact .inl h
 . exact .inr (.inl h)
 . exact .inr (.inr (.inl h))
 . exact .inr (.inr (.inr (.inl h)))
 . exact .inr (.inr (.inr (.inr (.inl h))))
 . exact .inr (.inr (.inr (.inr (.inr (.inl h)))))
 . exact .inr (.inr (.inr (.inr (.inr (.inr (.inl h))))))
 . exact .inr (.inr (.inr (.inr (.inr (.inr (.inr (.inl h)))))))
 . exact .inr (.inr (.inr (.inr (.inr (.inr (.inr (.inr (.inl h))))))))
 . exact .inr (.inr (.inr (.inr (.inr (.inr (.inr (.inr (.inr h))))))))
 . simp [KP.part] at h
theorem KP.Jf {b:Nat} {p:KP} {k:Nat} (h:k∈p.foot b):∃ i,k∈p.part b i:=by
 unfold KP.foot at h;simp only [List.mem_append] at h;rcases h with h | h | h | h | h | h | h | h | h | h
 . exact⟨0,h⟩
 . exact⟨1,h⟩
 . exact⟨2,h⟩
 . exact⟨3,h⟩
 . exact⟨4,h⟩
 . exact⟨5,h⟩
 . exact⟨6,h⟩
 . exact⟨7,h⟩
 . exact⟨8,h⟩
 . exact⟨9,h⟩
def KP.Apart (b:Nat) (p:KP):Prop:=∀ i j k,i≠j->k∈p.part b i->k∉p.part b j
theorem KP.Apart.swap{b:Nat}{p p':KP}{w:World}(h:p.Apart b)(n:Nat)(hlt:∀ i,∀ k∈p.part b i,k<w.heap.size)(hs:Sub (p'.part b n) (p.part b n) w)(ho:∀ i,i≠n->p'.part b i=p.part b i):p'.Apart b:=by
 intro i j k hij hi hj;by_cases h1:i=n
 . subst h1
   rw [ho j (fun e=>hij e.symm)] at hj;rcases hs k hi with h2 | h2
   . exact h i j k hij h2 hj
   . have:=hlt j k hj; omega
 . rw [ho i h1] at hi
   by_cases h2:j=n
   . subst h2
     rcases hs k hj with h3 | h3
     . exact h i j k hij hi h3
     . have:=hlt i k hi; omega
   . rw [ho j h2] at hj
     exact h i j k hij hi hj
theorem KP.Am{b:Nat}{p p':KP}{w:World}(n:Nat)(hs:Sub (p'.part b n) (p.part b n) w)(ho:∀ i,i≠n->p'.part b i=p.part b i):Sub (p'.foot b) (p.foot b) w:=by
 intro k hk;obtain⟨i,hi⟩:=KP.Jf hk;by_cases h1:i=n
 . subst h1
   rcases hs k hi with h2 | h2
   . exact .inl (KP.bg h2)
   . exact .inr h2
 . rw [ho i h1] at hi
   exact .inl (KP.bg hi)
theorem KP.xO{b:Nat}{p p':KP}{w:World}(h:∀ i,∀ k∈p.part b i,11<=k)(n:Nat)(hz:11<=w.heap.size)(hs:Sub (p'.part b n) (p.part b n) w)(ho:∀ i,i≠n->p'.part b i=p.part b i):∀ i,∀ k∈p'.part b i,11<=k:=by
 intro i k hk;by_cases h1:i=n
 . subst h1
   rcases hs k hk with h2 | h2
   . exact h i k h2
   . omega
 . rw [ho i h1] at hk
   exact h i k hk
structure MP where
 a:Nat
 bb:Nat
instance:Coe MP Nat:=⟨MP.a⟩
structure KB (w:World) (b:MP) (p:KP) (s:KS):Prop where
 o8:p.bb=b.bb
 blk:aC w b 160 [.pointer (some ⟨p.bb,0,none⟩),.pointer (some ⟨p.pp,0,none⟩),.map (some p.md),.map (some p.ms),.map (some p.mc),p.tv,.int .i64 s.depth,.int .i64 s.names,.slice none 0 0,.slice none 0 0,.slice none 0 0,p.iv,p.ov]
 nK:PB w p.bb s.bm p.FB
 plan:PL w p.pp p.rv s.used s.rr
 data:kY w 3 21 p.md p.nd (uS s.data)
 sec:kY w 3 4 p.ms p.ns p.fs
 cons:kY w 21 3 p.mc p.l7 (oJ s.cons)
 tabs:w.ownsRow 0 3 1 p.tv s.nt (ints s.rt.reverse)
 inn:w.ownsRow 0 3 1 p.iv s.ri.length (ints s.ri.reverse)
 out:w.ownsRow 0 3 1 p.ov s.ro.length (ints s.ro.reverse)
 wf:s.WF
 nd:p.nd<=s.data.length
 ns:p.ns<=s.used
 l7:p.l7<=s.cons.length
 apart:p.Apart b
 jF:oh w
 high:∀ i,∀ k∈p.part b i,11<=k
def nM(fs:Lit->Option Lit)(s:KS):Prop:=∀ a:Nat,a<s.used->fs (.int .i64 a)=some (.bool (jK s a))
def KR(w:World)(b:MP)(s:KS)(F:List Nat):Prop:=∃ p,KB w b p s/\nM p.fs s/\F=p.foot b
theorem NC{w:World}{base e size n:Nat}{v:Value}{xs:List Value}(h:w.ownsRow base e size v n xs):∀ k∈v.ownBlock.toList,k<w.heap.size:=fun k hk=>(h.lt k (Option.mem_toList.1 hk)).2
section
variable {w w':World} {b:MP} {p:KP} {s:KS} {D:List Nat}
theorem KB.lt(h:KB w b p s):∀ i,∀ k∈p.part b i,k<w.heap.size:=by
 intro i k hk;rcases i with _ | _ | _ | _ | _ | _ | _ | _ | _ | _ | i
 . simp only [KP.part,List.mem_singleton] at hk; subst hk; exact h.blk.lt
 . exact h.nK.lt k hk
 . simp only [KP.part,List.mem_singleton] at hk; subst hk; exact h.plan.blk.lt
 . simp only [KP.part,List.mem_singleton] at hk; subst hk; exact h.data.lt
 . simp only [KP.part,List.mem_singleton] at hk; subst hk; exact h.sec.lt
 . simp only [KP.part,List.mem_singleton] at hk; subst hk; exact h.cons.lt
 . exact NC h.tabs k hk
 . exact NC h.inn k hk
 . exact NC h.out k hk
 . exact NC h.plan.row k hk
 . simp [KP.part] at hk
theorem KB.flt(h:KB w b p s):∀ k∈p.foot b,k<w.heap.size:=fun k hk=>by
 obtain⟨i,hi⟩:=KP.Jf hk;exact h.lt i k hi
theorem bM{v:Value}{g:Nat}{L:List Nat}(hD:∀ k∈v.ownBlock.toList,k∉L):v.ownBlock=some g->g∉L:=fun hg=>hD g (Option.mem_toList.2 hg)
theorem PL.aj{pp used:Nat}{rv:Value}{rr:List (Nat×Nat×Bool)}(h:PL w pp rv used rr)(hc:ah w w' D)(h1:pp∉D)(h2:∀ k∈rv.ownBlock.toList,k∉D):PL w' pp rv used rr :=
 ⟨h.blk.aj hc h1,aH h.row hc fun g hg=>bM h2 hg⟩
theorem KB.aj (h:KB w b p s) (hc:ah w w' D) (hD:∀ k∈p.foot b,k∉D) (hG:∀ k∈D,11<=k):KB w' b p s where
 blk:=h.blk.aj hc (hD b (KP.bg (i:=0) (by simp [KP.part])))
 nK:=h.nK.aj hc fun k hk=>hD k (KP.bg (i:=1) hk)
 plan:=h.plan.aj hc (hD _ (KP.bg (i:=2) (by simp [KP.part]))) fun k hk=>hD k (KP.bg (i:=9) hk)
 data:=h.data.aj hc (hD _ (KP.bg (i:=3) (by simp [KP.part])))
 sec:=h.sec.aj hc (hD _ (KP.bg (i:=4) (by simp [KP.part])))
 cons:=h.cons.aj hc (hD _ (KP.bg (i:=5) (by simp [KP.part])))
 tabs:=aH h.tabs hc fun g hg=>bM (fun k hk=>hD k (KP.bg (i:=6) hk)) hg
 inn:=aH h.inn hc fun g hg=>bM (fun k hk=>hD k (KP.bg (i:=7) hk)) hg
 out:=aH h.out hc fun g hg=>bM (fun k hk=>hD k (KP.bg (i:=8) hk)) hg
 wf:=h.wf
 nd:=h.nd
 ns:=h.ns
 l7:=h.l7
 o8:=h.o8
 apart:=h.apart
 jF:=h.jF.aj hc hG
 high:=h.high
theorem KB.bJ (h:KB w b p s) (hc:ah w w' []):KB w' b p s:=h.aj hc (by simp) (by simp)
theorem KR.aj {F:List Nat} (h:KR w b s F) (hc:ah w w' D) (hD:∀ k∈F,k∉D) (hG:∀ k∈D,11<=k):KR w' b s F:=by
 obtain⟨p,hp,hf,rfl⟩:=h;exact⟨p,hp.aj hc hD hG,hf,rfl⟩
theorem KR.bJ {F:List Nat} (h:KR w b s F) (hc:ah w w' []):KR w' b s F:=h.aj hc (by simp) (by simp)
theorem KB.high'(h:KB w b p s):∀ k∈p.foot b,11<=k:=fun k hk=>by
 obtain⟨i,hi⟩:=KP.Jf hk;exact h.high i k hi
theorem KR.high {F:List Nat} (h:KR w b s F):∀ k∈F,11<=k:=by
 obtain⟨p,hp,hf,rfl⟩:=h;exact hp.high'
theorem KR.jF {F:List Nat} (h:KR w b s F):oh w:=by
 obtain⟨p,hp,hf,rfl⟩:=h;exact hp.jF
theorem KR.lt{F:List Nat}(h:KR w b s F):∀ k∈F,k<w.heap.size:=by
 obtain⟨p,hp,hf,rfl⟩:=h;exact hp.flt
end
section
variable {w w':World} {b:MP} {p:KP} {s:KS}
theorem KB.aik(h:KB w b p s){F':List Nat}{bm:BM}(hc:ah w w' p.FB)(hs:Sub F' p.FB w)(hp:PB w' p.bb bm F')(rc:List aW)(nc:Nat)(rd ru:List (Nat×Nat))
 (hb:bm=({ s with rc:=rc,nc:=nc,rd:=rd,ru:=ru }:KS).bm) (hw:({ s with rc:=rc,nc:=nc,rd:=rd,ru:=ru }:KS).WF) :
 KB w' b { p with FB:=F' } { s with rc:=rc,nc:=nc,rd:=rd,ru:=ru } where
 blk:=h.blk.aj hc fun hm=>h.apart 0 1 b (by decide) (by simp [KP.part]) hm
 nK:=hb▸hp
 plan:=h.plan.aj hc (fun hm=>h.apart 2 1 _ (by decide) (by simp [KP.part]) hm) fun k hk hm=>h.apart 9 1 k (by decide) hk hm
 data:=h.data.aj hc fun hm=>h.apart 3 1 _ (by decide) (by simp [KP.part]) hm
 sec:=h.sec.aj hc fun hm=>h.apart 4 1 _ (by decide) (by simp [KP.part]) hm
 cons:=h.cons.aj hc fun hm=>h.apart 5 1 _ (by decide) (by simp [KP.part]) hm
 tabs:=aH h.tabs hc fun g hg=>bM (fun k hk hm=>h.apart 6 1 k (by decide) hk hm) hg
 inn:=aH h.inn hc fun g hg=>bM (fun k hk hm=>h.apart 7 1 k (by decide) hk hm) hg
 out:=aH h.out hc fun g hg=>bM (fun k hk hm=>h.apart 8 1 k (by decide) hk hm) hg
 wf:=hw
 nd:=h.nd
 ns:=h.ns
 l7:=h.l7
 o8:=h.o8
 apart:=h.apart.swap (w:=w) 1 h.lt hs fun i hi=>by
  rcases i with _ | _ | _ | _ | _ | _ | _ | _ | _ | _ | i
  case succ.zero=>exact absurd rfl hi
  all_goals rfl
 jF:=h.jF.aj hc fun k hk=>h.high 1 k hk
 high:=KP.xO (w:=w) h.high 1 h.jF.size hs fun i hi=>by
  rcases i with _ | _ | _ | _ | _ | _ | _ | _ | _ | _ | i
  case succ.zero=>exact absurd rfl hi
  all_goals rfl
theorem KB.Hq{F':List Nat}(hs:Sub F' p.FB w):Sub (KP.foot b { p with FB:=F' }) (p.foot b) w:=KP.Am 1 hs fun i hi=>by
 rcases i with _ | _ | _ | _ | _ | _ | _ | _ | _ | _ | i
 case succ.zero=>exact absurd rfl hi
 all_goals rfl
theorem KB.atG(h:KB w b p s){rv:Value}{used:Nat}{rr:List (Nat×Nat×Bool)}(hc:ah w w' ([p.pp]++p.rv.ownBlock.toList))(hs:Sub rv.ownBlock.toList p.rv.ownBlock.toList w)(hp:PL w' p.pp rv used rr)(hu:s.used<=used)
 (hw:({ s with rr:=rr,used:=used }:KS).WF) :
 KB w' b { p with rv:=rv } { s with rr:=rr,used:=used }:=by
 have hD:∀ i,i≠2->i≠9->∀ k∈p.part b i,k∉[p.pp]++p.rv.ownBlock.toList:=fun i h2 h9 k hk hm=>by
  rcases List.mem_append.1 hm with hm | hm
  . exact h.apart i 2 k h2 hk hm
  . exact h.apart i 9 k h9 hk hm
 exact {
  blk:=h.blk.aj hc (hD 0 (by decide) (by decide) b (by simp [KP.part]))
  nK:=h.nK.aj hc (hD 1 (by decide) (by decide))
  plan:=hp
  data:=h.data.aj hc (hD 3 (by decide) (by decide) _ (by simp [KP.part]))
  sec:=h.sec.aj hc (hD 4 (by decide) (by decide) _ (by simp [KP.part]))
  cons:=h.cons.aj hc (hD 5 (by decide) (by decide) _ (by simp [KP.part]))
  tabs:=aH h.tabs hc fun g hg=>bM (hD 6 (by decide) (by decide)) hg
  inn:=aH h.inn hc fun g hg=>bM (hD 7 (by decide) (by decide)) hg
  out:=aH h.out hc fun g hg=>bM (hD 8 (by decide) (by decide)) hg
  wf:=hw
  nd:=h.nd
  ns:=Nat.le_trans h.ns hu
  l7:=h.l7
  o8:=h.o8
  apart:=h.apart.swap (w:=w) 9 h.lt hs fun i hi=>by
   rcases i with _ | _ | _ | _ | _ | _ | _ | _ | _ | _ | i
   case succ.succ.succ.succ.succ.succ.succ.succ.succ.zero=>exact absurd rfl hi
   all_goals rfl
  jF:=h.jF.aj hc fun k hk=>by
   rcases List.mem_append.1 hk with hk | hk
   . exact h.high 2 k hk
   . exact h.high 9 k hk
  high:=KP.xO (w:=w) h.high 9 h.jF.size hs fun i hi=>by
   rcases i with _ | _ | _ | _ | _ | _ | _ | _ | _ | _ | i
   case succ.succ.succ.succ.succ.succ.succ.succ.succ.zero=>exact absurd rfl hi
   all_goals rfl }
theorem KB.abD{rv:Value}(hs:Sub rv.ownBlock.toList p.rv.ownBlock.toList w):Sub (KP.foot b { p with rv:=rv }) (p.foot b) w:=KP.Am 9 hs fun i hi=>by
 rcases i with _ | _ | _ | _ | _ | _ | _ | _ | _ | _ | i
 case succ.succ.succ.succ.succ.succ.succ.succ.succ.zero=>exact absurd rfl hi
 all_goals rfl
theorem KB.awT (h:KB w b p s) {n:Nat} {fs:Lit->Option Lit} (hc:ah w w' [p.ms]) (hm:kY w' 3 4 p.ms n fs) (hn:n<=s.used):KB w' b { p with ns:=n,fs:=fs } s:=by
 have hD:∀ i,i≠4->∀ k∈p.part b i,k∉[p.ms]:=fun i hi k hk hm=>h.apart i 4 k hi hk hm
 exact {
  blk:=h.blk.aj hc (hD 0 (by decide) b (by simp [KP.part]))
  nK:=h.nK.aj hc (hD 1 (by decide))
  plan:=h.plan.aj hc (hD 2 (by decide) _ (by simp [KP.part])) (hD 9 (by decide))
  data:=h.data.aj hc (hD 3 (by decide) _ (by simp [KP.part]))
  sec:=hm
  cons:=h.cons.aj hc (hD 5 (by decide) _ (by simp [KP.part]))
  tabs:=aH h.tabs hc fun g hg=>bM (hD 6 (by decide)) hg
  inn:=aH h.inn hc fun g hg=>bM (hD 7 (by decide)) hg
  out:=aH h.out hc fun g hg=>bM (hD 8 (by decide)) hg
  wf:=h.wf
  nd:=h.nd
  ns:=hn
  l7:=h.l7
  o8:=h.o8
  apart:=h.apart
  jF:=h.jF.aj hc fun k hk=>h.high 4 k hk
  high:=h.high }
theorem KB.abE(h:KB w b p s){n:Nat}{d:List (Nat×Int)}(hc:ah w w' [p.md])(hm:kY w' 3 21 p.md n (uS d))(hn:n<=d.length)(hw:({ s with data:=d }:KS).WF):KB w' b { p with nd:=n } { s with data:=d }:=by
 have hD:∀ i,i≠3->∀ k∈p.part b i,k∉[p.md]:=fun i hi k hk hm=>h.apart i 3 k hi hk hm
 exact {
  blk:=h.blk.aj hc (hD 0 (by decide) b (by simp [KP.part]))
  nK:=h.nK.aj hc (hD 1 (by decide))
  plan:=h.plan.aj hc (hD 2 (by decide) _ (by simp [KP.part])) (hD 9 (by decide))
  data:=hm
  sec:=h.sec.aj hc (hD 4 (by decide) _ (by simp [KP.part]))
  cons:=h.cons.aj hc (hD 5 (by decide) _ (by simp [KP.part]))
  tabs:=aH h.tabs hc fun g hg=>bM (hD 6 (by decide)) hg
  inn:=aH h.inn hc fun g hg=>bM (hD 7 (by decide)) hg
  out:=aH h.out hc fun g hg=>bM (hD 8 (by decide)) hg
  wf:=hw
  nd:=hn
  ns:=h.ns
  l7:=h.l7
  o8:=h.o8
  apart:=h.apart
  jF:=h.jF.aj hc fun k hk=>h.high 3 k hk
  high:=h.high }
theorem KB.atH(h:KB w b p s){n:Nat}{d:List (Int×Nat)}(hc:ah w w' [p.mc])(hm:kY w' 21 3 p.mc n (oJ d))(hn:n<=d.length)(hw:({ s with cons:=d }:KS).WF):KB w' b { p with l7:=n } { s with cons:=d }:=by
 have hD:∀ i,i≠5->∀ k∈p.part b i,k∉[p.mc]:=fun i hi k hk hm=>h.apart i 5 k hi hk hm
 exact {
  blk:=h.blk.aj hc (hD 0 (by decide) b (by simp [KP.part]))
  nK:=h.nK.aj hc (hD 1 (by decide))
  plan:=h.plan.aj hc (hD 2 (by decide) _ (by simp [KP.part])) (hD 9 (by decide))
  data:=h.data.aj hc (hD 3 (by decide) _ (by simp [KP.part]))
  sec:=h.sec.aj hc (hD 4 (by decide) _ (by simp [KP.part]))
  cons:=hm
  tabs:=aH h.tabs hc fun g hg=>bM (hD 6 (by decide)) hg
  inn:=aH h.inn hc fun g hg=>bM (hD 7 (by decide)) hg
  out:=aH h.out hc fun g hg=>bM (hD 8 (by decide)) hg
  wf:=hw
  nd:=h.nd
  ns:=h.ns
  l7:=hn
  o8:=h.o8
  apart:=h.apart
  jF:=h.jF.aj hc fun k hk=>h.high 5 k hk
  high:=h.high }
theorem KB.ail (h:KB w b p s) (hc:ah w w' [b.a]) (depth names:Nat)
 (hb:aC w' b 160 [.pointer (some ⟨p.bb,0,none⟩),.pointer (some ⟨p.pp,0,none⟩),.map (some p.md),.map (some p.ms),.map (some p.mc),p.tv,.int .i64 depth,.int .i64 names,.slice none 0 0,.slice none 0 0,.slice none 0 0,p.iv,p.ov])
 (hw:({ s with depth:=depth,names:=names }:KS).WF):KB w' b p { s with depth:=depth,names:=names }:=by
 have hD:∀ i,i≠0->∀ k∈p.part b i,k∉[b.a]:=fun i hi k hk hm=>h.apart i 0 k hi hk hm
 exact {
  blk:=hb
  nK:=h.nK.aj hc (hD 1 (by decide))
  plan:=h.plan.aj hc (hD 2 (by decide) _ (by simp [KP.part])) (hD 9 (by decide))
  data:=h.data.aj hc (hD 3 (by decide) _ (by simp [KP.part]))
  sec:=h.sec.aj hc (hD 4 (by decide) _ (by simp [KP.part]))
  cons:=h.cons.aj hc (hD 5 (by decide) _ (by simp [KP.part]))
  tabs:=aH h.tabs hc fun g hg=>bM (hD 6 (by decide)) hg
  inn:=aH h.inn hc fun g hg=>bM (hD 7 (by decide)) hg
  out:=aH h.out hc fun g hg=>bM (hD 8 (by decide)) hg
  wf:=hw
  nd:=h.nd
  ns:=h.ns
  l7:=h.l7
  o8:=h.o8
  apart:=h.apart
  jF:=h.jF.aj hc fun k hk=>h.high 0 k hk
  high:=h.high }
end
end

section
open Go.RowKit Go.Deep Go.Maps Ab
attribute [local go_sem] Oper.semAt_some
def MkQ(v:Value)(s':KS)(b:MP)(p:KP)(w:World)(e:Ending)(w':World):Prop:=e=.returned v/\ah w w' (p.foot b)/\∃ p',KB w' b p' s'/\p'.fs=p.fs/\Sub (p'.foot b) (p.foot b) w
def iW(v:Value)(s':KS)(b:MP)(F:List Nat)(w:World)(e:Ending)(w':World):Prop:=e=.returned v/\ah w w' F/\∃ F',Sub F' F w/\KR w' b s' F'
theorem iW.trans {v:Value} {s':KS} {b:MP} {F F1:List Nat} {w w1 w2:World} {e:Ending} (hc:ah w w1 F) (hs:Sub F1 F w) (h:iW v s' b F1 w1 e w2):iW v s' b F w e w2:=by
 obtain⟨he,hc2,F2,hs2,hk⟩:=h;exact⟨he,hc.trans hc2 hs,F2,Sub.trans hs hs2 hc.size,hk⟩
theorem _root_.Go.Proofs.YtjmojlhnmkjdkaaGreatDoor.Ab.KS.aoX(s:KS)(i:aW):(s.ins i).bm={ s.bm with code:=s.bm.code++[i] }:=by
 unfold KS.bm KS.ins;simp
theorem _root_.Go.Proofs.YtjmojlhnmkjdkaaGreatDoor.Ab.KS.WF.ins {s:KS} (h:s.WF) (i:aW) (hc:s.nc<=799999):(s.ins i).WF :=
 { h with nc:=by show s.nc+1=(i::s.rc).length; rw [h.nc]; rfl,code:=by show s.nc+1<=800000; omega,uses:=Nat.le_trans h.uses (Nat.le_succ _) }
section
variable {w:World} {b:MP} {p:KP} {s:KS}
theorem KB.ins(h:KB w b p s)(i:aW)(hi:jV i=0)(hc:s.nc<=799999) :
 Calls Tryz.prog 105 #[.pointer (some ⟨p.bb,0,none⟩),bD i] w fun e w'=>e=.returned (.int .i64 0)/\ah w w' (p.foot b)/\∃ p',KB w' b p' (s.ins i)/\p'.fs=p.fs/\Sub (p'.foot b) (p.foot b) w:=by
 have hl:s.bm.code.length<=1000000:=by
  show s.rc.reverse.length<=_;rw [List.length_reverse,<- h.wf.nc];omega
 refine(nH h.nK i hl hi).mono ?_;rintro e w' ⟨rfl,hcc,F',hs,hp⟩;refine⟨rfl,hcc.more (fun k hk=>.inl (KP.bg (i:=1) hk)),_,h.aik hcc hs hp _ _ _ _ (KS.aoX s i).symm (h.wf.ins i hc),rfl,KB.Hq hs⟩
theorem aoY{r a:Nat}(hr:r<=31)(ha:a<=2048):chk 34 (r:Int) 0 0 (a:Int)=0:=by
 rw [lS];unfold Fits jy;simp;omega
theorem aoZ{r a:Nat}(hr:r<=31)(ha:a<=2048):chk 35 (r:Int) 0 0 (a:Int)=0:=by
 rw [lS];unfold Fits jy;simp;omega
theorem abG (h:KB w b p s) (r a:Nat) (hr:r<=31) (ha:a<=2048) (hc:s.nc<=799999) :
 Calls Tryz.prog 103 #[.pointer (some ⟨b.a,0,none⟩),.int .i64 (r:Int),.int .i64 (a:Int)] w (MkQ (.tuple #[]) (s.load r a) b p w):=by
 have c0:=h.blk.cell' (i:=0) rfl;have hi:=h.ins ⟨34,r,0,0,a⟩ (aoY hr ha) hc;unfold bD at hi;clear h;go_enter Tryz.func103,Tryz.ntmps103
 go_wp2_with (go_at_call 105; refine hi.mono ?_; rintro e w1 ⟨rfl,hx⟩);refine bodyPost_end (results_none rfl _ _ _) rfl ?_;exact⟨rfl,hx⟩
theorem YB (h:KB w b p s) (r a:Nat) (hr:r<=31) (ha:a<=2048) (hc:s.nc<=799999) :
 Calls Tryz.prog 104 #[.pointer (some ⟨b.a,0,none⟩),.int .i64 (r:Int),.int .i64 (a:Int)] w (MkQ (.tuple #[]) (s.store r a) b p w):=by
 have c0:=h.blk.cell' (i:=0) rfl;have hi:=h.ins ⟨35,r,0,0,a⟩ (aoZ hr ha) hc;unfold bD at hi;clear h;go_enter Tryz.func104,Tryz.ntmps104
 go_wp2_with (go_at_call 105; refine hi.mono ?_; rintro e w1 ⟨rfl,hx⟩);refine bodyPost_end (results_none rfl _ _ _) rfl ?_;exact⟨rfl,hx⟩
end
end

section
open Go.RowKit Go.Deep Go.Maps Ab
attribute [local go_sem] Oper.semAt_some
theorem Ap:∀(l:List (Nat×Nat×Bool)) (u:Nat),(dH l u).length=l.length*4
 | [],_=>rfl
 | (k,n,b)::l,u=>by
  unfold dH;rw [List.length_append,Ap l,List.length_cons];show _+4=_;omega
theorem J7:∀(l:List (Nat×Nat×Bool)) (u j:Nat),j<l.length->∃ k a n b,(∃ x∈l,x.1=k)/\(dH l u)[j*4]?=some (bH (iL k))/\(dH l u)[j*4+1]?=some (.int .i64 (a:Nat))/\(dH l u)[j*4+2]?=some (.int .i64 (n:Nat))/\(dH l u)[j*4+3]?=some (.bool b)
 | [],_,j,h=>by simp at h
 | (k,n,b)::l,u,j,h=>by
  have hl:=Ap l (u - n);unfold dH;by_cases e:j<l.length
  . obtain⟨k',a',n',b',⟨x,hx,hk⟩,h0,h1,h2,h3⟩:=J7 l (u - n) j e
    refine⟨k',a',n',b',⟨x,List.mem_cons_of_mem _ hx,hk⟩,?_,?_,?_,?_⟩<;>rw [List.getElem?_append_left (by omega)]<;>assumption
  . have e:j=l.length:=by simp at h; omega
    subst e;refine⟨k,u - n,n,b,⟨_,List.mem_cons_self,rfl⟩,?_,?_,?_,?_⟩<;>rw [List.getElem?_append_right (by omega)]
    . rw [show l.length*4 - (dH l (u - n)).length=0 by omega]; rfl
    . rw [show l.length*4+1 - (dH l (u - n)).length=1 by omega]; rfl
    . rw [show l.length*4+2 - (dH l (u - n)).length=2 by omega]; rfl
    . rw [show l.length*4+3 - (dH l (u - n)).length=3 by omega]; rfl
theorem YC(q:Nat)(nm nm':List UInt8)(v1 v2:Int)(v3:Bool)(w:World)(hq:w.cell? ⟨q,0,none⟩=some (bH nm))(hne:nm'≠nm) :
 Calls Tryz.prog 269 #[.agg #[bH nm',.int .i64 v1,.int .i64 v2,.bool v3],.pointer (some ⟨q,0,none⟩)] w fun e w'=>e=.returned (.bool false)/\ah w w' []:=by
 have hx:(nm'==nm)=false:=beq_eq_false_iff_ne.2 hne;have hb0:∀(o:Obj),(w.alloc o).cell? ⟨q,0,none⟩=some (bH nm):=fun o=>((ah.refl w []).alloc o).cell hq (by simp);unfold bH at *;go_enter Tryz.func269,Tryz.ntmps269
 go_wp2;go_ret;exact⟨rfl,(ah.refl w []).alloc _⟩
theorem aeT{w:World}{pp used:Nat}{rv:Value}{rr:List (Nat×Nat×Bool)}(h:PL w pp rv used rr)(q nm:Nat)(hq:w.cell? ⟨q,0,none⟩=some (bH (iL nm)))(hn:∀ x∈rr,x.1≠nm)(hl:rr.length<=1000000) :
 Calls Tryz.prog 299 #[rv,.func (.func 269) #[] #[.pointer (some ⟨q,0,none⟩)]] w fun e w'=>e=.returned (.int .i64 (-1))/\ah w w' []:=by
 obtain⟨A,c,rfl,hx⟩:=oH h.row;have HX:=hide hx;have HQ:=hide hq;have HN:=hide hn;clear h hx hq hn;go_enter Tryz.func299,Tryz.ntmps299
 go_wp2;go_loopw [5,8] (fun _ i wr=>∃ k:Nat,k<=rr.length/\i=.int .i64 k/\Hid (ah w wr [])) (fun _ i _=>rr.length - (intOf i).toNat)
 case atStart=>exact⟨0,Nat.zero_le _,rfl,hide (ah.refl _ _)⟩
 case round =>
  obtain⟨k,hk,rfl,HR⟩:=hrel;by_cases hlt:k<rr.length
  . obtain⟨g,rfl,hgl,hgb,hcells⟩:=HX.out (by omega)
    obtain⟨kn,a,n,b,⟨x,hxm,rfl⟩,e0,e1,e2,e3⟩:=J7 rr used k hlt;have ca:=HR.out.cell (hcells _ _ e0) (by simp);have cb:=HR.out.cell (hcells _ _ e1) (by simp);have cc:=HR.out.cell (hcells _ _ e2) (by simp);have cd:=HR.out.cell (hcells _ _ e3) (by simp);have hfp:=YC q (iL nm) (iL x.1) a n b wr (HR.out.cell HQ.out (by simp)) (fun e=>HN.out x hxm (aeN e));have hgr:g<wr.heap.size:=by have:=HR.out.size; omega
    clear hcells e0 e1 e2 e3;unfold bH at *;go_wp2_with fail
    refine hfp.mono ?_;rintro e w1 ⟨rfl,hc⟩;have HC:=hide hc;clear hc hfp;go_wp2;go_roundw
    case rel=>exact⟨k+1,by omega,by go_num,hide (HR.out.trans HC.out (by simp))⟩
    case measure=>simp [intOf]; omega
  . have hk2:k=rr.length:=by omega
    subst hk2;go_wp2;go_ret;exact⟨rfl,HR.out⟩
def Aq:Value:=.agg #[.string ⟨#[]⟩,.int .i64 0,.int .i64 0,.bool false]
theorem abH{w:World}{pp used:Nat}{rv:Value}{rr:List (Nat×Nat×Bool)}(h:PL w pp rv used rr)(q nm:Nat)(hq:w.cell? ⟨q,0,none⟩=some (bH (iL nm)))(hn:∀ x∈rr,x.1≠nm)(hl:rr.length<=1000000) :
 Calls Tryz.prog 268 #[rv,.func (.func 269) #[] #[.pointer (some ⟨q,0,none⟩)]] w fun e w'=>e=.returned (.tuple #[Aq,.bool false])/\ah w w' []:=by
 have hi:=fun o:Obj=>aeT (h.aj ((ah.refl w []).alloc o) (by simp) (by simp)) q nm (((ah.refl w []).alloc o).cell hq (by simp)) hn hl;clear h hq hn;unfold Aq;go_enter Tryz.func268,Tryz.ntmps268
 go_wp2_with (go_at_call 299; refine(hi _).mono ?_);rintro e w1 ⟨rfl,hc⟩;have hb:=(aC.new w 247 [.string ⟨#[]⟩,.int .i64 0,.int .i64 0,.bool false]).aj hc (by simp);have hwl:=hb.lt;have f0:=hb.frozen 0;have y0:=hb.cell' (i:=0) rfl;have f1:=hb.frozen 1;have y1:=hb.cell' (i:=1) rfl;have f2:=hb.frozen 2;have y2:=hb.cell' (i:=2) rfl;have f3:=hb.frozen 3;have y3:=hb.cell' (i:=3) rfl;have HB:=hide hb;have HC:=hide hc;clear hc hi hb;go_wp2
 all_goals
  refine bodyPost_ret (v:=.tuple #[.agg #[.string ⟨#[]⟩,.int .i64 0,.int .i64 0,.bool false],.bool false]) ?_ rfl ⟨rfl,?_⟩
  . rw [results_cell_tmp rfl]
    go_simp
  . have hc1:ah w w1 []:=((ah.refl w []).alloc _).trans HC.out (by simp)
    exact((((hc1.setCell _ _ (.inr (Nat.le_refl _))).setCell _ _ (.inr (Nat.le_refl _))).setCell _ _ (.inr (Nat.le_refl _))).setCell _ _ (.inr (Nat.le_refl _))).alloc _
theorem Rf{w:World}{pp used:Nat}{rv:Value}{rr:List (Nat×Nat×Bool)}(h:PL w pp rv used rr):Calls Tryz.prog 172 #[.pointer (some ⟨pp,0,none⟩)] w fun e w'=>e=.returned rv/\w=w':=by
 have c2:=h.blk.cell' (i:=2) rfl;clear h;go_enter Tryz.func172,Tryz.ntmps172
 go_wp2;go_ret;exact⟨rfl,rfl⟩
theorem abI{w:World}{pp used:Nat}{rv:Value}{rr:List (Nat×Nat×Bool)}(h:PL w pp rv used rr)(nm:Nat)(hn:∀ x∈rr,x.1≠nm)(hl:rr.length<=1000000) :
 Calls Tryz.prog 215 #[.pointer (some ⟨pp,0,none⟩),bH (iL nm)] w fun e w'=>e=.returned (.tuple #[Aq,.bool false])/\ah w w' []:=by
 have ha:=fun W (hW:ah w W [])=>Rf (h.aj hW (by simp) (by simp));have hp:=fun W q (hW:ah w W []) hq=>abH (h.aj hW (by simp) (by simp)) q nm hq hn hl;clear h hn;have hq0:∀(v:Value) (o:Obj),((w.alloc (.cells #[v] 9)).alloc o).cell? ⟨w.heap.size,0,none⟩=some v:=fun v o=>((aC.new w 9 [v]).alloc o).cell' (i:=0) rfl;have hx:=fun v o=>hq0 v o;unfold Aq bH at *;go_enter Tryz.func215,Tryz.ntmps215
 go_wp2_with (first | (go_at_call 172; refine(ha _ (((ah.refl w []).alloc _).alloc _)).mono ?_; rintro e w1 ⟨rfl,rfl⟩) | (go_at_call 268; refine(hp _ _ (((ah.refl w []).alloc _).alloc _) (hx _ _)).mono ?_));rintro e w1 ⟨rfl,hc⟩;have hc0:ah w w1 []:=(((ah.refl w []).alloc _).alloc _).trans hc (by simp);have hb:=(aC.new (w.alloc (.cells #[.string ⟨(iL nm).toArray⟩] 9)) 247 [.string ⟨#[]⟩,.int .i64 0,.int .i64 0,.bool false]).aj hc (by simp);rw [size_alloc] at hb;have hwl:=hb.lt;have f0:=hb.frozen 0;have y0:=hb.cell' (i:=0) rfl;have f1:=hb.frozen 1;have y1:=hb.cell' (i:=1) rfl;have f2:=hb.frozen 2;have y2:=hb.cell' (i:=2) rfl;have f3:=hb.frozen 3;have y3:=hb.cell' (i:=3) rfl;have HC:=hide hc0;clear hb hc hc0 hp ha hx hq0;go_wp2;refine bodyPost_ret (v:=.tuple #[.agg #[.string ⟨#[]⟩,.int .i64 0,.int .i64 0,.bool false],.bool false]) ?_ rfl ⟨rfl,?_⟩
 . rw [results_cell_tmp rfl]
   go_simp
 . exact(((HC.out.setCell _ _ (.inr (Nat.le_succ _))).setCell _ _ (.inr (Nat.le_succ _))).setCell _ _ (.inr (Nat.le_succ _))).setCell _ _ (.inr (Nat.le_succ _))
theorem YD:(Tryz.prog.info? 247).map (fun i=>(i.zero,i.size,i.bytes))=some (some (.agg #[.string ⟨#[]⟩,.int .i64 0,.int .i64 0,.bool false]),4,40):=by kernel_rfl
theorem ain{w:World}{a b c d:Value}{t:TypeId}:∀ j u,[a,b,c,d][j]?=some u->(w.alloc (.cells #[a,b,c,d] t)).cell? ((⟨w.heap.size,0,none⟩:Addr).add j)=some u:=by
 intro j u hj
 match j,hj with
 | 0,hj=>simp at hj; subst hj; simp [Addr.add]
 | 1,hj=>simp at hj; subst hj; simp [Addr.add]
 | 2,hj=>simp at hj; subst hj; simp [Addr.add]
 | 3,hj=>simp at hj; subst hj; simp [Addr.add]
theorem aio{a:ByteArray}{b c:Int}{d:Bool}:∀ u∈[Value.string a,.int .i64 b,.int .i64 c,.bool d],u.oneCell'=true:=by
 intro u hu;simp at hu;rcases hu with rfl | rfl | rfl | rfl<;>rfl
theorem SL(l:List (Nat×Nat×Bool))(u k n:Nat)(b:Bool):dH ((k,n,b)::l) (u+n)=dH l u++PV k u n b:=by
 show dH l (u+n - n)++PV k (u+n - n) n b=_;rw [Nat.add_sub_cancel]
def ao0(pp:Nat)(rv:Value)(used nm n:Nat)(sec:Bool)(rr:List (Nat×Nat×Bool))(w:World)(e:Ending)(w':World):Prop :=
 e=.returned (.tuple #[.int .i64 (used:Int),.int .i64 0])/\ah w w' ([pp]++rv.ownBlock.toList)/\∃ rv',Sub rv'.ownBlock.toList rv.ownBlock.toList w/\PL w' pp rv' (used+n) ((nm,n,sec)::rr)
theorem YE{w:World}{pp used:Nat}{rv:Value}{rr:List (Nat×Nat×Bool)}(h:PL w pp rv used rr)(nm n:Nat)(sec:Bool)(hn:∀ x∈rr,x.1≠nm)(hl:rr.length<=1000000)(h1:1<=n)(h2:used+n<=2048)(hnm:nm<1000000) :
 Calls Tryz.prog 140 #[.pointer (some ⟨pp,0,none⟩),bH (iL nm),.int .i64 (n:Int),.bool sec] w (ao0 pp rv used nm n sec rr w):=by
 obtain⟨i0,hi,hz0,hz1,hz2⟩:=info_parts YD;have H:=hide h;have hf:=abI h nm hn hl;have his:=fun W:World=>U1 (iL nm) W (by have:=akU hnm; unfold qJ iL at this; simp only [Bool.and_eq_true,decide_eq_true_eq] at this; unfold iL; simp only [List.length_cons]; omega);simp only [akU hnm] at his;have c3:=h.blk.cell' (i:=3) rfl;have c1:=h.blk.cell' (i:=1) rfl;have c0:=h.blk.cell' (i:=0) rfl;have x1:decide ((n:Int)<1)=false:=decide_eq_false (by omega);have hw1:wrap64 (2048 - (used:Int))=2048 - (used:Int):=by unfold wrap64; omega
 have x2:decide (2048 - (used:Int)<(n:Int))=false:=decide_eq_false (by omega);have hw2:wrap64 ((used:Int)+(n:Int))=((used+n:Nat):Int):=by unfold wrap64; omega
 have HW2:=hide hw2;have HF:=hide hf;have H12:=hide h2;clear h hf h1 h2 hnm hn hw2;unfold ao0 Aq bH at *;go_enter Tryz.func140,Tryz.ntmps140
 go_wp2_with (first | (go_at_call 215; refine HF.out.mono ?_));rintro e w1 ⟨rfl,hc⟩;have d0:=hc.cell c0 (by simp);have d1:=hc.cell c1 (by simp);have HC:=hide hc;have HP:=hide (H.out.aj hc (by simp) (by simp));clear hc c0 c1 c3;go_wp2_with (go_at_call 216; refine(his _).mono ?_);rintro e w2 ⟨rfl,hc2⟩;have hc3:ah w w2 []:=HC.out.trans (((ah.refl w1 []).alloc _).trans hc2 (by simp)) (by simp);have jC:=hide hc3;have HP2:=hide (H.out.aj hc3 (by simp) (by simp));obtain⟨A,c,rfl⟩:=bK H.out.row;have e0:=HP2.out.blk.cell' (i:=0) rfl;have e1:=HP2.out.blk.cell' (i:=1) rfl;have e2:=HP2.out.blk.cell' (i:=2) rfl;have f1:=HP2.out.blk.frozen 1;have f2:=HP2.out.blk.frozen 2;have hlt:=HP2.out.blk.lt;clear hc2 hc3 d0 d1 HC HP his HF;go_wp2_with (fail)
 go_quiet (fail)
 go_wp2_with (at_builtin; refine wpList_append_lies _ rfl _ _ 217 rfl 0 247 i0 (.agg #[.string ⟨#[]⟩,.int .i64 0,.int .i64 0,.bool false]) 4 40 Tryz.underlying217 hi hz0 hz1 hz2 rfl (by decide) _ rr.length _ rfl (aH HP2.out.row (((ah.refl w2 []).drewN _).alloc _) (by simp)) ⟨w2.heap.size,0,none⟩ 1 1 [.string ⟨(iL nm).toArray⟩,.int .i64 (used:Int),.int .i64 (n:Int),.bool sec] rfl rfl ain aio (by decide) (by unfold maxLen; omega) (by omega) (Nat.zero_le _) _ rfl ?_);intro g cap w4 hown hgr hg2 hg3;have hc4:ah w w4 (Value.slice A rr.length c).ownBlock.toList:=((jC.out.more (by simp)).drewN _ |>.alloc _).trans (ah.fZ (D:=(Value.slice A rr.length c).ownBlock.toList) hgr (fun k hk=>.inl (by simp [hk]))) (fun k hk=>.inl hk)
 have hpp:pp∉(Value.slice A rr.length c).ownBlock.toList:=fun hm=>by
  obtain⟨cur,hcur⟩:=iY H.out.row (Option.mem_toList.1 hm);exact qL hcur H.out.blk (by decide) rfl
 have hb4:=H.out.blk.aj hc4 hpp;have y0:=hb4.cell' (i:=0) rfl;have y1:=hb4.cell' (i:=1) rfl;have y2:=hb4.cell' (i:=2) rfl;have z1:=hb4.frozen 1;have z2:=hb4.frozen 2
 have hg4:g=pp->False:=fun e=>by
  rcases hg2 with h | h
  . exact hpp (by rw [h,e]; simp)
  . have:=H.out.blk.lt; have:=jC.out.size; omega
 have HB4:=hide hb4;have jB:=hide hc4;have qc:=hide hown;have HG2:=hide hg2;have J3:=hide hg4;have HPP:=hide hpp;clear hown hgr hg2 hc4 hb4 hg4 hpp e0 e1 e2 f1 f2;go_wp2;go_ret2;have hw2:=HW2.out;have hcx:ah w w4 ([pp]++(Value.slice A rr.length c).ownBlock.toList):=jB.out.more (fun k hk=>.inl (List.mem_append_right _ hk));have hpm:pp∈[pp]++(Value.slice A rr.length c).ownBlock.toList:=by simp
 refine⟨rfl,((hcx.setCell ⟨pp,2,none⟩ _ (.inl hpm)).setCell ⟨pp,1,none⟩ _ (.inl hpm)),.slice (some ⟨g,0,none⟩) (rr.length+1) cap,?_,?_,?_⟩
 . intro k hk
   simp only [Value.ownBlock,Option.mem_toList,Option.some.injEq] at hk;have hk:g=k:=by simpa using hk
   subst hk;rcases HG2.out with h | h
   . exact .inl (by rw [h]; simp)
   . exact .inr (by have:=jC.out.size; omega)
 . have:=(HB4.out.aK 2 (.slice (some ⟨g,0,none⟩) (rr.length+1) cap)).aK 1 (.int .i64 (wrap64 ((used:Int)+(n:Int))))
   rw [hw2] at this
   simpa [hw2] using this
 . rw [SL]
   have DN:∀ k,(Value.slice (some ⟨g,0,none⟩) (rr.length+1) cap).ownBlock=some k->k∉[pp]:=fun k hk hm=>by
    have hk:g=k:=by simpa [Value.ownBlock] using hk
    have hm:k=pp:=by simpa using hm
    exact J3.out (hk.trans hm)
   exact aH qc.out (((ah.refl w4 [pp]).setCell _ _ (.inl (by simp))).setCell _ _ (.inl (by simp))) DN
