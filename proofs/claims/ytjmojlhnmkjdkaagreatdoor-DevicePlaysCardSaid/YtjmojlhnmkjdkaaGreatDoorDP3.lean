/- Texts of this claim, side by side. -/
import Derived.Test.YtjmojlhnmkjdkaaGreatDoorDP2
import Derived.Test.YtjmojlhnmkjdkaaGreatDoorErrAsD
set_option linter.unusedVariables false
set_option maxRecDepth 100000
set_option maxHeartbeats 8000000
namespace Go.Proofs.YtjmojlhnmkjdkaaGreatDoor
section
open Go.RowKit Go.Deep Go.Maps
attribute [local go_sem] Oper.semAt_some
def Ny(w:World):Prop:=w.cell? ⟨2,0,none⟩=some (.iface 309 (.agg #[.pointer (some ⟨11,144,none⟩)]))
theorem Ny.aj {w w':World} {D:List Nat} (h:Ny w) (hc:ah w w' D) (hD:2∉D):Ny w':=hc.cell h hD
def awS(r:Except Nm (List (Int×Int)))(w:World)(e:Ending)(w':World):Prop :=
 ah w w' []/\((∃ s,r=.error s/\e=.returned (.tuple #[.slice none 0 0,bH s,.int .i64 10])) \/
  (∃ fx v,r=.ok fx/\e=.returned (.tuple #[v,.string ⟨#[]⟩,.int .i64 0])/\w'.ownsRow w.heap.size 243 2 v fx.length (wu fx)))
theorem SH{w:World}{t m n:Nat}{uv:Value}{defs uses:List (Nm×Int)}(h:PT w t m uv n defs uses)(hs:∀ p∈uses,p.1.length<=1000000)(hn:uses.length<=1000000)(hE:Ny w) :
 Calls Tryz.prog 171 #[.pointer (some ⟨t,0,none⟩)] w (awS (mP defs uses) w):=by
 have hl:=EJ h;have hf:=Yw h hs hn;have HE:=hide hE;clear h hs hE;go_enter Tryz.func171,Tryz.ntmps171
 go_wp2_with (first | (go_at_call 238; refine hl.mono ?_; rintro e w1 ⟨rfl,rfl⟩) | (go_at_call 239; refine hf.mono ?_));rintro e w1 ⟨hc,hr⟩;have HC:=hide hc;have HE1:=hide (HE.out.aj hc (by simp));clear hc hf;rcases hr with⟨s,q,hr,rfl,hb⟩ | ⟨fx,v,hr,rfl,ho⟩
 . have HR:=hide hr
   have hbl:=hb.lt;have hE2:Ny (w1.alloc (.cells #[.pointer none] 292)):=HE1.out.aj ((ah.refl w1 []).alloc _) (by simp);have hah:=as_hit ⟨q,0,none⟩ ⟨w1.heap.size,0,none⟩ (.pointer none) (w1.alloc (.cells #[.pointer none] 292)) hE2 (by simp) (by simp);have HB:=hide hb;clear hr hE2 hb;go_wp2_with (go_at_call 240; refine hah.mono ?_);rintro e w2 ⟨rfl,hw⟩;have hc2:ah w1 w2 []:=by rw [hw]; exact((((((ah.refl w1 []).alloc _).alloc _).alloc _).alloc _).alloc _).setCell _ _ (.inr (Nat.le_refl _))
   have hb1:aC w2 w1.heap.size 292 [.pointer (some ⟨q,0,none⟩)]:=by
    rw [hw];exact(((((aC.new w1 292 [.pointer none]).alloc _).alloc _).alloc _).alloc _).aK 0 _
   have d0:=hb1.cell' (i:=0) rfl;have e0:=(HB.out.aj hc2 (by simp)).cell' (i:=0) rfl;have HC2:=hide hc2;unfold bH at e0;clear hw hc2 hb1 hah;go_wp2;go_quiet (fail)
   go_wp2;refine bodyPost_ret (results_tmp3 rfl _ _ _) rfl ?_;exact⟨(HC.out.trans HC2.out (by simp)).drewN _,.inl ⟨s,HR.out,rfl⟩⟩
 . have HR:=hide hr
   have HO:=hide ho;have hnil:=fun t=>as_nil t (w1.alloc (.cells #[.pointer none] 292));obtain⟨A,c,rfl⟩:=bK ho;clear hr ho;go_wp2_with (go_at_call 240; refine(hnil _).mono ?_; rintro e w2 ⟨rfl,hw⟩; rw [hw]);refine bodyPost_ret (results_tmp3 rfl _ _ _) rfl ?_;exact⟨HC.out.alloc _,.inr ⟨fx,_,HR.out,rfl,HO.out.alloc _⟩⟩
def wB (i:aW):List Value:=[.int .i64 i.op,.int .i64 i.d,.int .i64 i.a,.int .i64 i.b,.int .i64 i.n]
def bD (i:aW):Value:=.agg #[.int .i64 i.op,.int .i64 i.d,.int .i64 i.a,.int .i64 i.b,.int .i64 i.n]
def codeCells (l:List aW):List Value:=l.flatMap wB
theorem PN(l:List aW)(i:aW):codeCells (l++[i])=codeCells l++wB i:=by simp [codeCells]
structure Gj (w:World) (b t m:Nat) (cv uv:Value) (n:Nat) (bm:BM):Prop where
 blk:aC w b 224 [.pointer (some ⟨t,0,none⟩),cv]
 tab:PT w t m uv n bm.defs bm.uses
 row:w.ownsRow 0 126 5 cv bm.code.length (codeCells bm.code)
def gq(b t m:Nat)(cv uv:Value):List Nat:=[b]++cv.ownBlock.toList++pY t m uv
def PB(w:World)(b:Nat)(bm:BM)(F:List Nat):Prop:=∃ t m cv uv n,Gj w b t m cv uv n bm/\F=gq b t m cv uv/\n<=bm.defs.length
theorem Gj.aj {w w':World} {b t m n:Nat} {cv uv:Value} {bm:BM} {D:List Nat} (h:Gj w b t m cv uv n bm) (hc:ah w w' D) (hD:∀ k∈gq b t m cv uv,k∉D):Gj w' b t m cv uv n bm where
 blk:=h.blk.aj hc (hD b (by simp [gq]))
 tab:=h.tab.aj hc (fun k hk=>hD k (by simp [gq,hk]))
 row:=aH h.row hc (fun g hg=>hD g (by simp [gq,hg]))
theorem PB.aj {w w':World} {b:Nat} {bm:BM} {F D:List Nat} (h:PB w b bm F) (hc:ah w w' D) (hD:∀ k∈F,k∉D):PB w' b bm F:=by
 obtain⟨t,m,cv,uv,n,hp,rfl,hn⟩:=h;exact⟨t,m,cv,uv,n,hp.aj hc hD,rfl,hn⟩
def Sub (F' F:List Nat) (w:World):Prop:=∀ k∈F',k∈F\/w.heap.size<=k
theorem Sub.refl(F:List Nat)(w:World):Sub F F w:=fun k hk=>.inl hk
theorem Sub.trans{F F1 F2:List Nat}{w w1:World}(h:Sub F1 F w)(h2:Sub F2 F1 w1)(hs:w.heap.size<=w1.heap.size):Sub F2 F w:=fun k hk=>by
 rcases h2 k hk with h' | h'
 . exact h k h'
 . exact .inr (by omega)
section
variable {w:World} {b t m n:Nat} {cv uv:Value} {bm:BM}
theorem mQ(h:Gj w b t m cv uv n bm):Calls Tryz.prog 169 #[.pointer (some ⟨b,0,none⟩)] w fun e w'=>e=.returned (.bool true)/\w=w':=by
 have c0:=h.blk.cell' (i:=0) rfl;clear h;go_enter Tryz.func169,Tryz.ntmps169
 go_wp2;go_ret;exact⟨rfl,rfl⟩
end
theorem xH(d:Int)(w:World):Calls Tryz.prog 390 #[.int .i64 d] w fun e w'=>e=.returned (.bool (jA d))/\w=w':=by
 go_enter Tryz.func390,Tryz.ntmps390
 go_wp2
 all_goals
  go_ret;refine⟨zO ?_,rfl⟩;unfold jA;rw [Bool.eq_iff_iff];simp;omega
theorem zi(d:Int)(w:World):Calls Tryz.prog 395 #[.int .i64 d] w fun e w'=>e=.returned (.bool (BJ d))/\w=w':=by
 go_enter Tryz.func395,Tryz.ntmps395
 go_wp2
 all_goals
  go_ret;refine⟨zO ?_,rfl⟩;unfold BJ;rw [Bool.eq_iff_iff];simp;omega
end

section
open Go.RowKit Go.Deep Go.Maps
attribute [local go_sem] Oper.semAt_some
theorem ah2:(Tryz.prog.info? 126).map (fun i=>(i.zero,i.size,i.bytes))=some (some (.agg #[.int .i64 0,.int .i64 0,.int .i64 0,.int .i64 0,.int .i64 0]),5,40):=by kernel_rfl
theorem ah3{w:World}{a b c d f:Value}{t:TypeId}:∀ j u,[a,b,c,d,f][j]?=some u->((w.alloc (.cells #[a,b,c,d,f] t)).drew).cell? ((⟨w.heap.size,0,none⟩:Addr).add j)=some u:=by
 intro j u hj
 match j,hj with
 | 0,hj=>simp at hj; subst hj; simp [Addr.add]
 | 1,hj=>simp at hj; subst hj; simp [Addr.add]
 | 2,hj=>simp at hj; subst hj; simp [Addr.add]
 | 3,hj=>simp at hj; subst hj; simp [Addr.add]
 | 4,hj=>simp at hj; subst hj; simp [Addr.add]
theorem ah4{a b c d f:Int}:∀ u∈[Value.int .i64 a,.int .i64 b,.int .i64 c,.int .i64 d,.int .i64 f],u.oneCell'=true:=by
 intro u hu;simp at hu;rcases hu with rfl | rfl | rfl | rfl | rfl<;>rfl
theorem iY{w:World}{base e size n:Nat}{v:Value}{xs:List Value}(h:w.ownsRow base e size v n xs){g:Nat}(hg:v.ownBlock=some g):∃ cur,w.heap[g]?=some (.cells cur e (0,0)):=by
 rcases h.2 with⟨rfl,_⟩ | ⟨g',cap,cur,rfl,_,h2,_⟩
 . simp [Value.ownBlock] at hg
 . simp [Value.ownBlock] at hg
   subst hg;exact⟨cur,h2⟩
theorem qL{w:World}{a b:Nat}{c c':Array Value}{t t':TypeId}(h:w.heap[a]?=some (.cells c t (0,0)))(h':w.heap[b]?=some (.cells c' t' (0,0)))(hne:t≠t'):a≠b:=by
 rintro rfl;rw [h] at h';injection h' with h';injection h' with _ h';exact hne h'
theorem Nz{w:World}{a b:Nat}{c:Array Value}{t:TypeId}{es:Array MapEntry}{k:Nat}(h:w.heap[a]?=some (.cells c t (0,0)))(h':w.heap[b]?=some (.map es k)):a≠b:=by
 rintro rfl;rw [h] at h';injection h' with h'
 cases h'
theorem Gj.ne{w:World}{b t m n:Nat}{cv uv:Value}{bm:BM}(h:Gj w b t m cv uv n bm):b≠t/\b≠m/\cv.ownBlock≠some b/\cv.ownBlock≠some t/\cv.ownBlock≠some m/\(∀ g,uv.ownBlock=some g->g≠b/\cv.ownBlock≠some g):=by
 obtain⟨es,k,hm⟩:=h.tab.map.obj;refine⟨qL h.blk h.tab.blk (by decide),Nz h.blk hm,fun e=>?_,fun e=>?_,fun e=>?_,fun g hg=>⟨?_,fun e=>?_⟩⟩
 . obtain⟨cur,hc⟩:=iY h.row e
   exact qL hc h.blk (by decide) rfl
 . obtain⟨cur,hc⟩:=iY h.row e
   exact qL hc h.tab.blk (by decide) rfl
 . obtain⟨cur,hc⟩:=iY h.row e
   exact Nz hc hm rfl
 . obtain⟨cur,hc⟩:=iY h.tab.row hg
   exact qL hc h.blk (by decide)
 . obtain⟨cur,hc⟩:=iY h.tab.row hg
   obtain⟨cur',hc'⟩:=iY h.row e;exact qL hc hc' (by decide) rfl
theorem QU {w:World} {b:Nat} {bm:BM} {F:List Nat} (h:PB w b bm F) (i:aW) (hl:bm.code.length<=1000000) :
 Calls Tryz.prog 105 #[.pointer (some ⟨b,0,none⟩),bD i] w fun e w'=>e=.returned (.int .i64 (G9 bm i).1)/\ah w w' F/\∃ F',Sub F' F w/\PB w' b (G9 bm i).2 F':=by
 obtain⟨t,m,cv,uv,n,hp,rfl,hn⟩:=h;obtain⟨op,d,a,b1,n1⟩:=i;obtain⟨i0,hi,hz0,hz1,hz2⟩:=info_parts ah2;have HP:=hide hp;have hlv:=mQ (hp.aj ((ah.refl w []).alloc (.cells #[.int .i64 op,.int .i64 d,.int .i64 a,.int .i64 b1,.int .i64 n1] 126)) (by simp));have hck:=check_any op d a b1 n1 (w.alloc (.cells #[.int .i64 op,.int .i64 d,.int .i64 a,.int .i64 b1,.int .i64 n1] 126));have hnx:=hide hn;clear hp hn;unfold bD;by_cases h0:chk op d a b1 n1=0
 . have e1:G9 bm ⟨op,d,a,b1,n1⟩=(0,{ bm with code:=bm.code++[⟨op,d,a,b1,n1⟩] }):=by unfold G9 jV; simp [h0]
   rw [e1];rw [h0] at hck;clear h0 e1;unfold kK at hck;go_enter Tryz.func105,Tryz.ntmps105
   go_wp2_with (first | (go_at_call 169; refine hlv.mono ?_; rintro e w1 ⟨rfl,rfl⟩) | (go_at_call 170; refine hck.mono ?_));rintro e w1 ⟨rfl,hc⟩;have hc0:ah w w1 []:=((ah.refl w []).alloc _).trans hc (by simp);have dL:=hide (HP.out.aj hc0 (by simp));have HC:=hide hc0;have hbx:=(aC.new w 126 [.int .i64 op,.int .i64 d,.int .i64 a,.int .i64 b1,.int .i64 n1]).aj hc (by simp);have x0:=hbx.cell' (i:=0) rfl;have x1:=hbx.cell' (i:=1) rfl;have x2:=hbx.cell' (i:=2) rfl;have x3:=hbx.cell' (i:=3) rfl;have x4:=hbx.cell' (i:=4) rfl;have c1:=dL.out.blk.cell' (i:=1) rfl;have f1:=dL.out.blk.frozen 1;have hbl:=dL.out.blk.lt;have hwl:=hbx.lt;obtain⟨A,c,rfl⟩:=bK dL.out.row;clear hc hc0 hbx;go_wp2;go_region_law (refine step_append_lies _ rfl (.tmp 17) (.tmp 19) 222 rfl 0 126 i0 (.agg #[.int .i64 0,.int .i64 0,.int .i64 0,.int .i64 0,.int .i64 0]) 5 40 Tryz.underlying222 hi hz0 hz1 hz2 rfl (by decide) (.slice A bm.code.length c) bm.code.length _ (by simp [Act.eval]) ((dL.out.row.alloc _).drew) ⟨w1.heap.size,0,none⟩ 1 1 [.int .i64 op,.int .i64 d,.int .i64 a,.int .i64 b1,.int .i64 n1] (by simp [Act.eval]) rfl ah3 ah4 (by decide) (by unfold maxLen; omega) (by omega) (Nat.zero_le _) _ rfl ?_; rintro g cap w4 hown hgr hg2 hg3; have hc4:ah w1 w4 (Value.slice A bm.code.length c).ownBlock.toList:=((((ah.refl w1 _).alloc _).drew).trans (ah.fZ hgr (fun k hk=>.inl (by simp [hk]))) (fun k hk=>.inl hk)); have hb4:=dL.out.blk.aj hc4 (by simpa using fun e=>dL.out.ne.2.2.1 e); have y1:=hb4.cell' (i:=1) rfl; have yf:=hb4.frozen 1; have HB4:=hide hb4; have jB:=hide hc4; have qc:=hide hown; have hg2:=hg2.imp id (fun h=>h.trans (size_alloc w1 (.cells #[.int .i64 op,.int .i64 d,.int .i64 a,.int .i64 b1,.int .i64 n1] 126))); have J3:=hide hg2; clear hown hgr hc4 hb4 hg2; skip)
   all_goals
    go_wp2;go_ret;obtain⟨q1,q2,q3,q4,q5,q6⟩:=dL.out.ne;have hgl:g<w4.heap.size:=hg3
    have hbg:g≠b:=fun e=>by
     rcases J3.out with h | h
     . exact q3 (by rw [h,e])
     . omega
    have hc5:ah w4 (w4.setCell ⟨b,1,none⟩ (.slice (some ⟨g,0,none⟩) (bm.code.length+1) cap)) [b]:=(ah.refl w4 _).setCell _ _ (by simp)
    have hT:=(dL.out.tab.aj jB.out (fun k hk hm=>by
     have hm':=Option.mem_toList.1 hm;simp only [pY,List.mem_append,List.mem_cons,List.not_mem_nil,or_false,Option.mem_toList] at hk;rcases hk with(rfl | rfl) | hk
     . exact q4 hm'
     . exact q5 hm'
     . exact(q6 k hk).2 hm')).aj hc5 (fun k hk hm=>by
     simp only [List.mem_singleton] at hm;subst hm;simp only [pY,List.mem_append,List.mem_cons,List.not_mem_nil,or_false,Option.mem_toList] at hk;rcases hk with(rfl | rfl) | hk
     . exact q1 rfl
     . exact q2 rfl
     . exact(q6 _ hk).1 rfl)
    have hFF:ah w (w4.setCell ⟨b,1,none⟩ (.slice (some ⟨g,0,none⟩) (bm.code.length+1) cap)) (gq b t m (.slice A bm.code.length c) uv) :=
     (HC.out.more (D':=gq b t m (.slice A bm.code.length c) uv) (by simp)).trans ((jB.out.more (D':=gq b t m (.slice A bm.code.length c) uv) (fun k hk=>.inl (by simp only [gq,List.mem_append]; exact .inl (.inr hk)))).trans (hc5.more (D':=gq b t m (.slice A bm.code.length c) uv) (fun k hk=>.inl (by simp only [gq,List.mem_append]; exact .inl (.inl hk)))) (fun k hk=>.inl hk)) (fun k hk=>.inl hk)
    refine⟨rfl,hFF,gq b t m (.slice (some ⟨g,0,none⟩) (bm.code.length+1) cap) uv,?_,t,m,_,uv,n,⟨HB4.out.aK 1 _,hT,?_⟩,rfl,hnx.out⟩
    . intro k hk
      simp only [gq,List.mem_append,List.mem_singleton,Option.mem_toList,Value.ownBlock] at hk ⊢;rcases hk with(hk | hk) | hk
      . exact .inl (.inl (.inl hk))
      . have hk:g=k:=by simpa using hk
        subst hk;rcases J3.out with h | h
        . exact .inl (.inl (.inr h))
        . exact .inr (by have:=HC.out.size; omega)
      . exact .inl (.inr hk)
    . rw [PN,List.length_append]
      exact aH qc.out hc5 (fun k hk=>by simp [Value.ownBlock] at hk; subst hk; simpa using hbg)
 . have e1:G9 bm ⟨op,d,a,b1,n1⟩=(chk op d a b1 n1,bm):=by unfold G9 jV; simp [h0]
   rw [e1];generalize chk op d a b1 n1=e0 at *;have hx0:(e0==0)=false:=beq_eq_false_iff_ne.2 h0;clear h0 e1;unfold kK at hck;go_enter Tryz.func105,Tryz.ntmps105
   go_wp2_with (first | (go_at_call 169; refine hlv.mono ?_; rintro e w1 ⟨rfl,rfl⟩) | (go_at_call 170; refine hck.mono ?_));rintro e w1 ⟨rfl,hc⟩;have hc0:ah w w1 []:=((ah.refl w []).alloc _).trans hc (by simp);have HC:=hide hc0;clear hc hc0;go_wp2;go_ret;exact⟨rfl,HC.out.more (by simp),_,Sub.refl _ _,t,m,cv,uv,n,HP.out.aj HC.out (by simp),rfl,hnx.out⟩
structure CS where
 regs:List Int
 pc:Int
 st:Int
 cost:Int
 marks:List (Int×Int×Int)
def bT(bp cv mv:Value)(s:CS):List Value:=[bp,cv]++(s.regs.map (Value.int .i32)++[.int .i64 s.pc,.int .i64 s.st,.int .i64 s.cost,mv])
def kG(l:List (aW×Bool)):List Value:=l.flatMap fun p=>wB p.1++[.bool p.2]
def ig(l:List (Int×Int×Int)):List Value:=l.flatMap fun p=>[.int .i64 p.1,.int .i64 p.2.1,.int .i64 p.2.2]
theorem Qa(l:List (Int×Int×Int))(p:Int×Int×Int):ig (l++[p])=ig l++[.int .i64 p.1,.int .i64 p.2.1,.int .i64 p.2.2]:=by simp [ig]
structure CB (w:World) (c:Nat) (bp cv mv:Value) (code:List (aW×Bool)) (s:CS):Prop where
 blk:aC w c 123 (bT bp cv mv s)
 uY:w.ownsRow 0 130 6 cv code.length (kG code)
 yH:w.ownsRow 0 82 3 mv s.marks.length (ig s.marks)
 reg:s.regs.length=32
section
variable {bp cv mv:Value} {s:CS}
theorem oP(h:s.regs.length=32):(bT bp cv mv s)[34]?=some (.int .i64 s.pc)/\(bT bp cv mv s)[35]?=some (.int .i64 s.st)/\(bT bp cv mv s)[36]?=some (.int .i64 s.cost)/\(bT bp cv mv s)[37]?=some mv:=by
 unfold bT;refine⟨?_,?_,?_,?_⟩<;>(rw [List.getElem?_append_right (by simp),List.getElem?_append_right (by simp [h])]; simp [h])
theorem nR(h:s.regs.length=32)(i:Nat)(hi:i<32):(bT bp cv mv s)[2+i]?=some (.int .i32 (s.regs.getD i 0)):=by
 unfold bT;rw [List.getElem?_append_right (by simp),List.getElem?_append_left (by simp [h]; omega)];simp [h,hi]
theorem aiK(h:s.regs.length=32)(x:Int):(bT bp cv mv s).set 34 (.int .i64 x)=bT bp cv mv { s with pc:=x }:=by unfold bT; simp [h]
theorem aiL(h:s.regs.length=32)(x:Int):(bT bp cv mv s).set 35 (.int .i64 x)=bT bp cv mv { s with st:=x }:=by unfold bT; simp [h]
theorem aiM(h:s.regs.length=32)(x:Int):(bT bp cv mv s).set 36 (.int .i64 x)=bT bp cv mv { s with cost:=x }:=by unfold bT; simp [h]
theorem aiN(h:s.regs.length=32)(x:Value):(bT bp cv mv s).set 37 x=bT bp cv x s:=by unfold bT; simp [h]
theorem am1(h:s.regs.length=32)(i:Nat)(hi:i<32)(x:Int):(bT bp cv mv s).set (2+i) (.int .i32 x)=bT bp cv mv { s with regs:=s.regs.set i x }:=by
 have hl:i<(s.regs.map (Value.int .i32)).length:=by simp [h]; omega
 show(bp::cv::(s.regs.map (Value.int .i32)++[.int .i64 s.pc,.int .i64 s.st,.int .i64 s.cost,mv])).set (2+i) (.int .i32 x)=bp::cv::((s.regs.set i x).map (Value.int .i32)++[.int .i64 s.pc,.int .i64 s.st,.int .i64 s.cost,mv]);rw [Nat.add_comm 2 i,List.set_cons_succ,List.set_cons_succ,List.set_append,if_pos hl,List.map_set]
end
def gB(c:Nat)(cv mv:Value):List Nat:=[c]++(cv.ownBlock.toList++mv.ownBlock.toList)
theorem CB.aj{w w':World}{c:Nat}{bp cv mv:Value}{code:List (aW×Bool)}{s:CS}{D:List Nat}(h:CB w c bp cv mv code s)(hc:ah w w' D)(hD:∀ k∈gB c cv mv,k∉D):CB w' c bp cv mv code s where
 blk:=h.blk.aj hc (hD c (by simp [gB]))
 uY:=aH h.uY hc (fun g hg=>hD g (by simp [gB,hg]))
 yH:=aH h.yH hc (fun g hg=>hD g (by simp [gB,hg]))
 reg:=h.reg
theorem CB.ne{w:World}{c:Nat}{bp cv mv:Value}{code:List (aW×Bool)}{s:CS}(h:CB w c bp cv mv code s):cv.ownBlock≠some c/\mv.ownBlock≠some c/\(∀ g,cv.ownBlock=some g->mv.ownBlock≠some g):=by
 refine⟨fun e=>?_,fun e=>?_,fun g hg e=>?_⟩
 . obtain⟨cur,hc⟩:=iY h.uY e
   exact qL hc h.blk (by decide) rfl
 . obtain⟨cur,hc⟩:=iY h.yH e
   exact qL hc h.blk (by decide) rfl
 . obtain⟨cur,hc⟩:=iY h.uY hg
   obtain⟨cur',hc'⟩:=iY h.yH e;exact qL hc hc' (by decide) rfl
def gG(s:CS)(c:Nat)(bp cv mv:Value)(code:List (aW×Bool))(w w':World):Prop :=
 ah w w' ([c]++mv.ownBlock.toList)/\∃ mv',(mv'.ownBlock=mv.ownBlock\/∃ g,mv'.ownBlock=some g/\w.heap.size<=g)/\CB w' c bp cv mv' code s
def wO(s:CS)(i:Nat)(x:Int):CS:=if i=0 then s else { s with regs:=s.regs.set i x }
def uZ(s:CS)(next addr cost:Int):CS:={ s with pc:=next,cost:=wrap64 (s.cost+cost),marks:=s.marks++[(s.pc,addr,cost)] }
theorem H_{w:World}{c:Nat}{bp cv mv:Value}{code:List (aW×Bool)}{s:CS}(h:CB w c bp cv mv code s)(i:Nat)(hi:i<32)(x:Int) :
 Calls Tryz.prog 205 #[.pointer (some ⟨c,0,none⟩),.int .i64 i,.int .i32 x] w fun e w'=>(∃ v,e=.returned v)/\gG (wO s i x) c bp cv mv code w w':=by
 have H:=hide h;by_cases h0:i=0
 . subst h0
   clear h;go_enter Tryz.func205,Tryz.ntmps205
   go_wp2;refine bodyPost_end (results_none rfl _ _ _) rfl ?_;exact⟨⟨_,rfl⟩,ah.refl _ _,mv,.inl rfl,H.out⟩
 . have hx:((i:Int) != 0)=true:=by simp [h0]
   have hx2:((i:Int)==0)=false:=by simp [h0]
   have hcell:=h.blk.cell' (nR h.reg i hi);have hfz:=h.blk.frozen (2+i);have hlt:=h.blk.lt;have hi2:(i:Int)<32:=by omega
   clear h;have H0:=hide h0;clear h0;go_enter Tryz.func205,Tryz.ntmps205
   go_wp2;refine bodyPost_end (results_none rfl _ _ _) rfl ?_;refine⟨⟨_,rfl⟩,(ah.refl w _).setCell _ _ (.inl (by simp)),mv,.inl rfl,?_⟩;have hc:ah w (w.setCell ⟨c,2+i,none⟩ (.int .i32 x)) [c]:=(ah.refl w _).setCell _ _ (.inl (by simp));obtain⟨n1,n2,n3⟩:=H.out.ne;have hb:=H.out.blk.aK (2+i) (.int .i32 x);rw [am1 H.out.reg i hi x] at hb;unfold wO;rw [if_neg H0.out];exact⟨hb,aH H.out.uY hc (fun g hg hm=>by simp at hm; subst hm; exact n1 hg),aH H.out.yH hc (fun g hg hm=>by simp at hm; subst hm; exact n2 hg),by simpa using H.out.reg⟩
end

section
open Go.RowKit Go.Deep Go.Maps
attribute [local go_sem] Oper.semAt_some
theorem afs:(Tryz.prog.info? 82).map (fun i=>(i.zero,i.size,i.bytes))=some (some (.agg #[.int .i64 0,.int .i64 0,.int .i64 0]),3,24):=by kernel_rfl
theorem aft{w:World}{a b c:Value}{t:TypeId}:∀ j u,[a,b,c][j]?=some u->((w.alloc (.cells #[a,b,c] t)).drew).cell? ((⟨w.heap.size,0,none⟩:Addr).add j)=some u:=by
 intro j u hj
 match j,hj with
 | 0,hj=>simp at hj; subst hj; simp [Addr.add]
 | 1,hj=>simp at hj; subst hj; simp [Addr.add]
 | 2,hj=>simp at hj; subst hj; simp [Addr.add]
theorem afu{a b c:Int}:∀ u∈[Value.int .i64 a,.int .i64 b,.int .i64 c],u.oneCell'=true:=by
 intro u hu;simp at hu;rcases hu with rfl | rfl | rfl<;>rfl
theorem qU{w:World}{c:Nat}{bp cv mv:Value}{code:List (aW×Bool)}{s:CS}(h:CB w c bp cv mv code s)(next addr cost:Int)(hm:s.marks.length<=2000000) :
 Calls Tryz.prog 262 #[.pointer (some ⟨c,0,none⟩),.int .i64 next,.int .i64 addr,.int .i64 cost] w fun e w'=>(∃ v,e=.returned v)/\gG (uZ s next addr cost) c bp cv mv code w w':=by
 obtain⟨i0,hi,hz0,hz1,hz2⟩:=info_parts afs;have H:=hide h;obtain⟨e34,e35,e36,e37⟩:=@oP bp cv mv s h.reg;have c34:=h.blk.cell' e34;have c37:=h.blk.cell' e37;have f37:=h.blk.frozen 37;have hbl:=h.blk.lt;obtain⟨A,cc,rfl⟩:=bK h.yH;clear h e34 e35 e36 e37;go_enter Tryz.func262,Tryz.ntmps262
 go_wp2;go_region_law (refine step_append_lies _ rfl (.tmp 12) (.tmp 20) 30 rfl 0 82 i0 (.agg #[.int .i64 0,.int .i64 0,.int .i64 0]) 3 24 Tryz.underlying30 hi hz0 hz1 hz2 rfl (by decide) (.slice A s.marks.length cc) s.marks.length _ (by simp [Act.eval]) ((H.out.yH.alloc _).drew) ⟨w.heap.size,0,none⟩ 1 1 [.int .i64 s.pc,.int .i64 addr,.int .i64 cost] (by simp [Act.eval]) rfl aft afu (by decide) (by unfold maxLen; omega) (by omega) (Nat.zero_le _) _ rfl ?_; rintro g cap w4 hown hgr hg2 hg3; have hc4:ah w w4 (Value.slice A s.marks.length cc).ownBlock.toList:=((((ah.refl w _).alloc _).drew).trans (ah.fZ hgr (fun k hk=>.inl (by simp [hk]))) (fun k hk=>.inl hk)); have hb4:=H.out.blk.aj hc4 (by simpa using fun e=>H.out.ne.2.1 e); have y1:=hb4.cell' (@oP bp cv (.slice A s.marks.length cc) s H.out.reg).2.2.2; have y36:=hb4.cell' (@oP bp cv (.slice A s.marks.length cc) s H.out.reg).2.2.1; have yf:=hb4.frozen 37; have ay1:=hb4.frozen 34; have ay2:=hb4.frozen 36; have y34:=hb4.cell' (@oP bp cv (.slice A s.marks.length cc) s H.out.reg).1; have yl:=hb4.lt; have HB4:=hide hb4; have jB:=hide hc4; have qc:=hide hown; have hg2:=hg2.imp id (fun h=>h.trans (size_alloc w (.cells #[.int .i64 s.pc,.int .i64 addr,.int .i64 cost] 82))); have J3:=hide hg2; clear hown hgr hc4 hb4 hg2; skip)
 all_goals
  go_wp2;refine bodyPost_end (results_none rfl _ _ _) rfl ?_;obtain⟨n1,n2,n3⟩:=H.out.ne;have hgl:g<w4.heap.size:=hg3
  have hbg:g≠c:=fun e=>by
   rcases J3.out with h | h
   . exact n2 (by rw [h,e])
   . omega
  have hc5:ah w4 (((w4.setCell ⟨c,37,none⟩ (.slice (some ⟨g,0,none⟩) (s.marks.length+1) cap)).setCell ⟨c,34,none⟩ (.int .i64 next)).setCell ⟨c,36,none⟩ (.int .i64 (wrap64 (s.cost+cost)))) [c]:=(((ah.refl w4 _).setCell _ _ (.inl (by simp))).setCell _ _ (.inl (by simp))).setCell _ _ (.inl (by simp));have hb6:=((HB4.out.aK 37 (.slice (some ⟨g,0,none⟩) (s.marks.length+1) cap)).aK 34 (.int .i64 next)).aK 36 (.int .i64 (wrap64 (s.cost+cost)));rw [aiN H.out.reg,aiK H.out.reg,aiM (s:={ s with pc:=next }) H.out.reg] at hb6;refine⟨⟨_,rfl⟩,(jB.out.more (D':=[c]++(Value.slice A s.marks.length cc).ownBlock.toList) (fun k hk=>.inl (List.mem_append_right _ hk))).trans (hc5.more (D':=[c]++(Value.slice A s.marks.length cc).ownBlock.toList) (fun k hk=>.inl (List.mem_append_left _ hk))) (fun k hk=>.inl hk),.slice (some ⟨g,0,none⟩) (s.marks.length+1) cap,?_,⟨hb6,?_,?_,H.out.reg⟩⟩
  . rcases J3.out with h | h
    . exact .inl h.symm
    . exact .inr ⟨g,rfl,by omega⟩
  . refine aH (aH H.out.uY jB.out (fun k hk hm=>?_)) hc5 (fun k hk hm=>?_)
    . exact n3 k hk (Option.mem_toList.1 hm)
    . simp only [List.mem_singleton] at hm
      subst hm;exact n1 hk
  . show World.ownsRow _ 0 82 3 _ (s.marks++[(s.pc,addr,cost)]).length (ig (s.marks++[(s.pc,addr,cost)]))
    rw [Qa,List.length_append];exact aH qc.out hc5 (fun k hk=>by simp [Value.ownBlock] at hk; subst hk; simpa using hbg)
def Wj(s:CS)(cost:Int):CS:=uZ s (wrap64 (s.pc+1)) (-1) cost
theorem LV{w:World}{c:Nat}{bp cv mv:Value}{code:List (aW×Bool)}{s:CS}(h:CB w c bp cv mv code s)(cost:Int)(hm:s.marks.length<=2000000) :
 Calls Tryz.prog 206 #[.pointer (some ⟨c,0,none⟩),.int .i64 cost] w fun e w'=>(∃ v,e=.returned v)/\gG (Wj s cost) c bp cv mv code w w':=by
 have hg:=qU h (wrap64 (s.pc+1)) (-1) cost hm;obtain⟨e34,e35,e36,e37⟩:=@oP bp cv mv s h.reg;have c34:=h.blk.cell' e34;have HG:=hide hg;clear h e34 e35 e36 e37 hg;go_enter Tryz.func206,Tryz.ntmps206
 go_wp2_with fail
 go_at_call 262;refine HG.out.mono ?_;rintro e w1 ⟨⟨v,rfl⟩,hp⟩;go_wp2;refine bodyPost_end (results_none rfl _ _ _) rfl ?_;exact⟨⟨_,rfl⟩,hp⟩
def DX (s:CS) (n:Int) (holds:Bool):CS:=if holds then uZ s n (-1) 3 else Wj s 1
theorem Wn{w:World}{c:Nat}{bp cv mv:Value}{code:List (aW×Bool)}{s:CS}(h:CB w c bp cv mv code s)(i:aW)(holds:Bool)(hm:s.marks.length<=2000000) :
 Calls Tryz.prog 265 #[.pointer (some ⟨c,0,none⟩),bD i,.bool holds] w fun e w'=>(∃ v,e=.returned v)/\gG (DX s i.n holds) c bp cv mv code w w':=by
 obtain⟨op,d,a,b,n⟩:=i;have hc0:ah w (w.alloc (.cells #[.int .i64 op,.int .i64 d,.int .i64 a,.int .i64 b,.int .i64 n] 126)) []:=(ah.refl w []).alloc _;have h1:=h.aj hc0 (by simp);have HC:=hide hc0
 cases holds with
 | true =>
  have HG:=hide (qU h1 n (-1) 3 hm);clear h h1 hc0;unfold bD;go_enter Tryz.func265,Tryz.ntmps265
  go_wp2_with fail
  go_at_call 262;refine HG.out.mono ?_;rintro e w1 ⟨⟨v,rfl⟩,hc,mv',hmv,hb⟩;have HX:=hide hc;have HB:=hide hb;have HM:=hide hmv;clear hc hb hmv;go_wp2;refine bodyPost_end (results_none rfl _ _ _) rfl ?_;refine⟨⟨_,rfl⟩,(HC.out.more (by simp)).trans HX.out (fun k hk=>.inl hk),mv',?_,HB.out⟩;rcases HM.out with h | ⟨g,h,hg⟩
  . exact .inl h
  . exact .inr ⟨g,h,by have:=HC.out.size; omega⟩
 | false =>
  have HG:=hide (LV h1 1 hm);clear h h1 hc0;unfold bD;go_enter Tryz.func265,Tryz.ntmps265
  go_wp2_with fail
  go_at_call 206;refine HG.out.mono ?_;rintro e w1 ⟨⟨v,rfl⟩,hc,mv',hmv,hb⟩;have HX:=hide hc;have HB:=hide hb;have HM:=hide hmv;clear hc hb hmv;go_wp2;refine bodyPost_ret (results_none rfl _ _ _) rfl ?_;refine⟨⟨_,rfl⟩,(HC.out.more (by simp)).trans HX.out (fun k hk=>.inl hk),mv',?_,HB.out⟩;rcases HM.out with h | ⟨g,h,hg⟩
  . exact .inl h
  . exact .inr ⟨g,h,by have:=HC.out.size; omega⟩
