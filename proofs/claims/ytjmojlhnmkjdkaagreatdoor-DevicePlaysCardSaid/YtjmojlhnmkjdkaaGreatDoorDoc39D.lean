/- The document's deeds, and the device's: Do, Feed, alike. -/
import Derived.Test.YtjmojlhnmkjdkaaGreatDoorDP21
import Derived.Test.YtjmojlhnmkjdkaaGreatDoorDP22
set_option linter.unusedVariables false
set_option linter.unusedSimpArgs false
set_option maxHeartbeats 8000000
namespace Go.Proofs.YtjmojlhnmkjdkaaGreatDoor
open Go Go.RowKit Go.Deep Go.Maps Ab Xi
attribute [local go_sem] Oper.semAt_some
def qZ(x:Xi.St)(d:lG):Xi.St×List Nat×Int:=if d.1 then(if d.2.length=20 then(x.next d.2,(x.next d.2).frame (jT d.2),0) else(x,[],jf d.2.length)) else(st0,[],0)
theorem Pg(x:Xi.St){b:List Nat}(h:b.length=20):qZ x (true,b)=(x.next b,(x.next b).frame (jT b),0):=by unfold qZ; rw [if_pos rfl,if_pos h]
theorem Ph(x:Xi.St){b:List Nat}(h:b.length≠20):qZ x (true,b)=(x,[],jf b.length):=by unfold qZ; rw [if_pos rfl,if_neg h]
theorem ahg(x:Xi.St)(b:List Nat):qZ x (false,b)=(st0,[],0):=rfl
theorem as2(x:Xi.St)(d:lG):∀ y∈(qZ x d).2.1,y<256:=by
 obtain⟨f,b⟩:=d
 cases f with
 | false=>intro y hy; cases hy
 | true =>
  by_cases h:b.length=20
  . rw [Pg x h]; exact Xi.Bq (x.next b) (Xi.IC b)
  . rw [Ph x h]; intro y hy; cases hy
theorem ahh {x:Xi.St} (hr:x.right) (d:lG):(qZ x d).1.right:=by
 obtain⟨f,b⟩:=d
 cases f with
 | false=>exact IG
 | true =>
  by_cases h:b.length=20
  . rw [Pg x h]; exact Xi.St.zG hr b
  . rw [Ph x h]; exact hr
theorem akv{w:World}(hw:gZ w){x:Xi.St}(hr:x.right){b:List Nat}(hb:∀ y∈b,y<256)(hl:b.length<=maxLen){B:Option Addr}{cb:Nat}(hs:Sl w (.slice B b.length cb) (bU b)) :
 Calls Tryz.prog 25 #[x.val,.slice B b.length cb] w fun e w'=>∃ A n c,e=.returned (.tuple #[(qZ x (true,b)).1.val,.slice A n c,.int .i64 (qZ x (true,b)).2.2])/\Sl w' (.slice A n c) (bU (qZ x (true,b)).2.1)/\(∀ a,A=some a->w.heap.size<=a.block)/\(∀ a,A=some a->a.block<w'.heap.size)/\ah w w' []:=by
 by_cases h:b.length=20
 . rw [Pg x h]
   refine(ag8 hr h hb w hw hs).mono ?_;rintro e w' ⟨A,n,c,rfl,h1,h2,h3⟩;exact⟨some A,n,c,rfl,h1,fun a ha=>by injection ha with ha; subst ha; exact h2,fun a ha=>by injection ha with ha; subst ha; exact auJ h1 (by rw [fD,Xi.iQ]; decide),h3⟩
 . rw [Ph x h]
   refine(ag2 hr B b.length cb h hl w).mono ?_;rintro e w' ⟨rfl,h3⟩;exact⟨none,0,0,rfl,IE _,(fun a ha=>by cases ha),(fun a ha=>by cases ha),h3⟩
theorem Sr(w:World)(p0 p1 p2 p3 p4 p5 p6:Value)(f:Bool)(B:Option Addr)(k cb:Nat):ah w (((w.alloc (.cells #[p0,p1,p2,p3,p4,p5,p6] 46)).alloc (.cells #[.bool f,.slice B k cb] 50)).alloc (.cells #[.int .i32 0,.int .i32 0,.int .i32 0,.int .i32 0,.int .i64 0,.int .i64 0,.int .i64 0] 46)) []/\aC (((w.alloc (.cells #[p0,p1,p2,p3,p4,p5,p6] 46)).alloc (.cells #[.bool f,.slice B k cb] 50)).alloc (.cells #[.int .i32 0,.int .i32 0,.int .i32 0,.int .i32 0,.int .i64 0,.int .i64 0,.int .i64 0] 46)) w.heap.size 46 [p0,p1,p2,p3,p4,p5,p6]/\aC (((w.alloc (.cells #[p0,p1,p2,p3,p4,p5,p6] 46)).alloc (.cells #[.bool f,.slice B k cb] 50)).alloc (.cells #[.int .i32 0,.int .i32 0,.int .i32 0,.int .i32 0,.int .i64 0,.int .i64 0,.int .i64 0] 46)) (w.heap.size+1) 50 [.bool f,.slice B k cb]/\aC (((w.alloc (.cells #[p0,p1,p2,p3,p4,p5,p6] 46)).alloc (.cells #[.bool f,.slice B k cb] 50)).alloc (.cells #[.int .i32 0,.int .i32 0,.int .i32 0,.int .i32 0,.int .i64 0,.int .i64 0,.int .i64 0] 46)) (w.heap.size+1+1) 46 [.int .i32 0,.int .i32 0,.int .i32 0,.int .i32 0,.int .i64 0,.int .i64 0,.int .i64 0]:=by
 refine⟨(((ah.refl w []).alloc _).alloc _).alloc _,((aC.new w 46 [p0,p1,p2,p3,p4,p5,p6]).alloc _).alloc _,?_,?_⟩
 . have:=(aC.new (w.alloc (.cells #[p0,p1,p2,p3,p4,p5,p6] 46)) 50 [.bool f,.slice B k cb]).alloc (.cells #[.int .i32 0,.int .i32 0,.int .i32 0,.int .i32 0,.int .i64 0,.int .i64 0,.int .i64 0] 46)
   rw [size_alloc] at this;exact this
 . have:=aC.new ((w.alloc (.cells #[p0,p1,p2,p3,p4,p5,p6] 46)).alloc (.cells #[.bool f,.slice B k cb] 50)) 46 [.int .i32 0,.int .i32 0,.int .i32 0,.int .i32 0,.int .i64 0,.int .i64 0,.int .i64 0]
   rw [size_alloc,size_alloc] at this;exact this
set_option maxRecDepth 100000 in
theorem Sv (w:World) (p0 p1 p2 p3 p4 p5 p6:Value) (B:Option Addr) (k cb:Nat) :
 Calls Tryz.prog 17 #[.agg #[p0,p1,p2,p3,p4,p5,p6],.agg #[.bool false,.slice B k cb]] w fun e w'=>e=.returned (.tuple #[.agg #[.int .i32 1073741824,.int .i32 0,.int .i32 0,.int .i32 0,.int .i64 0,.int .i64 0,.int .i64 0],.slice none 0 0,.int .i64 0])/\ah w w' []:=by
 obtain⟨hc0,_,hd,hr⟩:=Sr w p0 p1 p2 p3 p4 p5 p6 false B k cb;have z0:=hd.cell' (i:=0) rfl;have hk:=QA (((w.alloc (.cells #[p0,p1,p2,p3,p4,p5,p6] 46)).alloc (.cells #[.bool false,.slice B k cb] 50)).alloc (.cells #[.int .i32 0,.int .i32 0,.int .i32 0,.int .i32 0,.int .i64 0,.int .i64 0,.int .i64 0] 46));have HC:=hide hc0;have HK:=hide hk;have HR:=hide hr;clear hc0 hd hr hk;go_enter Tryz.func17,Tryz.ntmps17
 go_wp2_with fail
 go_at_call 24;refine HK.out.mono ?_;rintro e w2 ⟨rfl,hc2⟩;have vb:=HR.out.aj hc2 (by simp);have HC2:=hide (HC.out.trans hc2 (D:=[]) (by simp));have vl:=vb.lt;clear hc2;have vc0:=vb.cell' (i:=0) rfl;have vf0:=vb.frozen 0;have vc1:=vb.cell' (i:=1) rfl;have vf1:=vb.frozen 1;have vc2:=vb.cell' (i:=2) rfl;have vf2:=vb.frozen 2;have vc3:=vb.cell' (i:=3) rfl;have vf3:=vb.frozen 3;have vc4:=vb.cell' (i:=4) rfl;have vf4:=vb.frozen 4;have vc5:=vb.cell' (i:=5) rfl;have vf5:=vb.frozen 5;have vc6:=vb.cell' (i:=6) rfl;have vf6:=vb.frozen 6;have HB:=hide vb;have HL:=hide (show w.heap.size<=w2.heap.size from HC2.out.size);clear vb;go_wp2_with fail
 change bodyPost _ _ _ _ _ (Du w2 (w.heap.size+1+1) (.int .i32 1073741824) (.int .i32 0) (.int .i32 0) (.int .i32 0) (.int .i64 0) (.int .i64 0) (.int .i64 0));have hcf:=FW w2 (w.heap.size+1+1) (.int .i32 1073741824) (.int .i32 0) (.int .i32 0) (.int .i32 0) (.int .i64 0) (.int .i64 0) (.int .i64 0);have kf:=FX HB.out (.int .i32 1073741824) (.int .i32 0) (.int .i32 0) (.int .i32 0) (.int .i64 0) (.int .i64 0) (.int .i64 0);have hc:=HC2.out.trans hcf (D:=[]) (fun k hk=>by simp at hk; omega);generalize Du w2 (w.heap.size+1+1) (.int .i32 1073741824) (.int .i32 0) (.int .i32 0) (.int .i32 0) (.int .i64 0) (.int .i64 0) (.int .i64 0)=wf at *;have tc0:=kf.cell' (i:=0) rfl;have tc1:=kf.cell' (i:=1) rfl;have tc2:=kf.cell' (i:=2) rfl;have tc3:=kf.cell' (i:=3) rfl;have tc4:=kf.cell' (i:=4) rfl;have tc5:=kf.cell' (i:=5) rfl;have tc6:=kf.cell' (i:=6) rfl;refine bodyPost_ret (tu rfl _ _ _ (A:=⟨w.heap.size+1+1,0,none⟩) rfl (v:=.agg #[.int .i32 1073741824,.int .i32 0,.int .i32 0,.int .i32 0,.int .i64 0,.int .i64 0,.int .i64 0]) ?_) rfl ?_
 . go_simp
 . exact⟨rfl,hc⟩
set_option maxRecDepth 100000 in
theorem akw(w:World){x y:Xi.St}{fr:List Nat}{er:Int}{B:Option Addr}{k cb:Nat}(hk:∀ w1,ah w w1 []->Calls Tryz.prog 25 #[x.val,.slice B k cb] w1 fun e w'=>∃ A n c,e=.returned (.tuple #[y.val,.slice A n c,.int .i64 er])/\Sl w' (.slice A n c) (bU fr)/\(∀ a,A=some a->w1.heap.size<=a.block)/\(∀ a,A=some a->a.block<w'.heap.size)/\ah w1 w' []) :
 Calls Tryz.prog 17 #[x.val,.agg #[.bool true,.slice B k cb]] w fun e w'=>∃ A n c,e=.returned (.tuple #[y.val,.slice A n c,.int .i64 er])/\Sl w' (.slice A n c) (bU fr)/\(∀ a,A=some a->w.heap.size<=a.block)/\(∀ a,A=some a->a.block<w'.heap.size)/\ah w w' []:=by
 obtain⟨hc0,hs,hd,hr⟩:=Sr w (.int .i32 x.q.a.v) (.int .i32 x.q.b.v) (.int .i32 x.q.c.v) (.int .i32 x.q.d.v) (.int .i64 x.s) (.int .i64 x.f) (.int .i64 x.g) true B k cb;have z0:=hd.cell' (i:=0) rfl;have z1:=hd.cell' (i:=1) rfl;have s0:=hs.cell' (i:=0) rfl;have s1:=hs.cell' (i:=1) rfl;have s2:=hs.cell' (i:=2) rfl;have s3:=hs.cell' (i:=3) rfl;have s4:=hs.cell' (i:=4) rfl;have s5:=hs.cell' (i:=5) rfl;have s6:=hs.cell' (i:=6) rfl;have hk:=hk _ hc0;have HC:=hide hc0;have HK:=hide hk;have HR:=hide hr;have HZ:=hide (show w.heap.size+1+1+1<=(((w.alloc (.cells #[.int .i32 x.q.a.v,.int .i32 x.q.b.v,.int .i32 x.q.c.v,.int .i32 x.q.d.v,.int .i64 x.s,.int .i64 x.f,.int .i64 x.g] 46)).alloc (.cells #[.bool true,.slice B k cb] 50)).alloc (.cells #[.int .i32 0,.int .i32 0,.int .i32 0,.int .i32 0,.int .i64 0,.int .i64 0,.int .i64 0] 46)).heap.size by rw [size_alloc,size_alloc,size_alloc]; exact Nat.le_refl _);clear hc0 hd hr hk hs;unfold Xi.St.val Gx;go_enter Tryz.func17,Tryz.ntmps17
 go_wp2_with fail
 go_at_call 25;refine HK.out.mono ?_;rintro e w2 ⟨A,n,c,rfl,h1,h2,h3,hc2⟩;have vb:=HR.out.aj hc2 (by simp);have HC2:=hide (HC.out.trans hc2 (D:=[]) (by simp));have H1:=hide h1;have H2:=hide h2;have H3:=hide h3;have vl:=vb.lt;clear hc2 h1 h2 h3;unfold Xi.St.val Gx;have vc0:=vb.cell' (i:=0) rfl;have vf0:=vb.frozen 0;have vc1:=vb.cell' (i:=1) rfl;have vf1:=vb.frozen 1;have vc2:=vb.cell' (i:=2) rfl;have vf2:=vb.frozen 2;have vc3:=vb.cell' (i:=3) rfl;have vf3:=vb.frozen 3;have vc4:=vb.cell' (i:=4) rfl;have vf4:=vb.frozen 4;have vc5:=vb.cell' (i:=5) rfl;have vf5:=vb.frozen 5;have vc6:=vb.cell' (i:=6) rfl;have vf6:=vb.frozen 6;have HB:=hide vb;have HL:=hide (show w.heap.size<=w2.heap.size from HC2.out.size);clear vb;go_wp2_with fail
 change bodyPost _ _ _ _ _ (Du w2 (w.heap.size+1+1) (.int .i32 y.q.a.v) (.int .i32 y.q.b.v) (.int .i32 y.q.c.v) (.int .i32 y.q.d.v) (.int .i64 y.s) (.int .i64 y.f) (.int .i64 y.g));have hcf:=FW w2 (w.heap.size+1+1) (.int .i32 y.q.a.v) (.int .i32 y.q.b.v) (.int .i32 y.q.c.v) (.int .i32 y.q.d.v) (.int .i64 y.s) (.int .i64 y.f) (.int .i64 y.g);have kf:=FX HB.out (.int .i32 y.q.a.v) (.int .i32 y.q.b.v) (.int .i32 y.q.c.v) (.int .i32 y.q.d.v) (.int .i64 y.s) (.int .i64 y.f) (.int .i64 y.g);have hc:=HC2.out.trans hcf (D:=[]) (fun k hk=>by simp at hk; omega);generalize Du w2 (w.heap.size+1+1) (.int .i32 y.q.a.v) (.int .i32 y.q.b.v) (.int .i32 y.q.c.v) (.int .i32 y.q.d.v) (.int .i64 y.s) (.int .i64 y.f) (.int .i64 y.g)=wf at *;have tc0:=kf.cell' (i:=0) rfl;have tc1:=kf.cell' (i:=1) rfl;have tc2:=kf.cell' (i:=2) rfl;have tc3:=kf.cell' (i:=3) rfl;have tc4:=kf.cell' (i:=4) rfl;have tc5:=kf.cell' (i:=5) rfl;have tc6:=kf.cell' (i:=6) rfl;refine bodyPost_ret (tu rfl _ _ _ (A:=⟨w.heap.size+1+1,0,none⟩) rfl (v:=.agg #[.int .i32 y.q.a.v,.int .i32 y.q.b.v,.int .i32 y.q.c.v,.int .i32 y.q.d.v,.int .i64 y.s,.int .i64 y.f,.int .i64 y.g]) ?_) rfl ?_
 . go_simp
 . refine⟨A,n,c,rfl,H1.out.aj hcf (fun A' n' c' e hm=>?_),fun a ha=>?_,fun a ha=>Nat.lt_of_lt_of_le (H3.out a ha) hcf.size,hc⟩
   . injection e with e
     have h5:=H2.out A' e;have h6:=HZ.out;simp at hm;omega
   . have:=H2.out a ha
     have:=HZ.out;omega
theorem ahi{w:World}(hw:∀ w1,ah w w1 []->gZ w1){x:Xi.St}(hr:x.right){f:Bool}{b:List Nat}(hb:∀ y∈b,y<256)(hl:b.length<=maxLen){B:Option Addr}{cb:Nat}(hs:Sl w (.slice B b.length cb) (bU b)) :
 Calls Tryz.prog 17 #[x.val,.agg #[.bool f,.slice B b.length cb]] w fun e w'=>∃ A n c,e=.returned (.tuple #[(qZ x (f,b)).1.val,.slice A n c,.int .i64 (qZ x (f,b)).2.2])/\Sl w' (.slice A n c) (bU (qZ x (f,b)).2.1)/\(∀ a,A=some a->w.heap.size<=a.block)/\(∀ a,A=some a->a.block<w'.heap.size)/\ah w w' []:=by
 cases f with
 | false =>
  rw [ahg];refine(Sv w _ _ _ _ _ _ _ B b.length cb).mono ?_;rintro e w' ⟨rfl,hc2⟩;exact⟨none,0,0,by rw [JO],IE _,(fun a ha=>by cases ha),(fun a ha=>by cases ha),hc2⟩
 | true=>exact akw w fun w1 hc=>akv (hw w1 hc) hr hb hl (hs.keep hc)
theorem akx{w:World}{d c:Nat}{x:Xi.St}{s:CS}{ran:Bool}{n:Nat}{F I:List Nat}(hg:oh w)(h:fH w d c x s ran n F I)(hn:n<100){B:Option Addr}{cb:Nat}{b:List Nat}(hl:b.length<=maxLen)(hb:∀ y∈b,y<256)(hin:Sl w (.slice B b.length cb) (bU b)) :
 Calls Tryz.prog 18 #[.pointer (some ⟨d,0,none⟩),.slice B b.length cb] w fun e w'=>∃ A k m F' s' ran' n',e=.returned (.tuple #[.slice A k m,.int .i64 (qZ x (true,b)).2.2])/\Sl w' (.slice A k m) (bU (qZ x (true,b)).2.1)/\ah w w' (d::F)/\Sub F' F w/\fH w' d c (qZ x (true,b)).1 s' ran' n' F' I/\n'<=n+1:=by
 by_cases h20:b.length=20
 . rw [Pg x h20]
   rw [h20] at hin ⊢;refine(KJ hg h hn h20 hb hin).mono ?_;rintro e w' ⟨u,F',s',rfl,hc,hs,hd,hu,_⟩;obtain⟨Au,ku,rfl,_⟩:=id hu;exact⟨Au,_,ku,F',s',true,n+1,rfl,hu,hc,hs,hd,Nat.le_refl _⟩
 . rw [Ph x h20]
   refine(Sm h (A:=B) (m:=cb) h20 hl).mono ?_;rintro e w' ⟨rfl,hc⟩;exact⟨none,0,0,F,s,ran,n,rfl,IE _,hc.more (by simp),Sub.refl _ _,h.bJ hc,Nat.le_succ _⟩
