/- Texts of this claim, side by side. -/
import Derived.Test.YtjmojlhnmkjdkaaGreatDoorEntKD
import Derived.Test.YtjmojlhnmkjdkaaGreatDoorDP17
set_option linter.unusedVariables false
set_option maxRecDepth 100000
namespace Go.Proofs.YtjmojlhnmkjdkaaGreatDoor
namespace Xi
open Go Go.RowKit
theorem alL(T:TypeId)(k:IntKind)(a b:Int):uJ Tryz.prog (.bin .neq T) [.int k a,.int k b] (.bool (a != b)):=fun x y w=>by simp [eqGuard,binOp,Op.intCmp]
theorem auI(T:TypeId)(k:IntKind)(a b:Int):uJ Tryz.prog (.bin .leq T) [.int k a,.int k b] (.bool (decide (a<=b))):=fun x y w=>by simp [eqGuard,binOp,Op.intCmp]
def asa (T:TypeId) (k:IntKind) (a b:Int) (r:Bool):Ob:=.test (.bin .leq T) [.int k a,.int k b] (.bool r)
def oIs (a r:Bool):Ob:=.test .is [.bool a] (.bool r)
def Gx (a b c d:Wd) (s f g:Int):Value:=.agg #[.int .i32 a.v,.int .i32 b.v,.int .i32 c.v,.int .i32 d.v,.int .i64 s,.int .i64 f,.int .i64 g]
def Iy (a b c d:Wd) (s f g:Int):List Value:=[.int .i32 a.v,.int .i32 b.v,.int .i32 c.v,.int .i32 d.v,.int .i64 s,.int .i64 f,.int .i64 g]
def foldI (c:Int) (l:List Int):Int:=l.foldl vC c
def u8I (l:List Int):List Value:=l.map (Value.int .u8)
def vH (a b c d:Wd):T3:=gQ (kW a.v) (kW b.v) (kW c.v) (kW d.v)
def Ud (a b c d:Wd):Bool:=iR (kW a.v) (kW b.v) (kW c.v) (kW d.v)
end Xi

namespace Xi
open Go Go.RowKit Go.Deep
def bC(x:Int)(k:Int):Nat:=(x / k%256).toNat
def b2 (x:Int):List Nat:=[bC x 256,bC x 1]
def b4 (x:Int):List Nat:=[bC x 16777216,bC x 65536,bC x 256,bC x 1]
theorem oU(x k:Int):bC x k<256:=by unfold bC; omega
def nI(l:List Nat):List Int:=l.map fun(x:Nat)=>(x:Int)
theorem RZ:∀(l:List Nat) (c:Nat),c<65536->foldI c (nI l)=(bP c l:Nat)
 | [],c,_=>rfl
 | x::l,c,h=>by
  show foldI (vC c x) (nI l)=_;rw [agm c x h,RZ l _ (Ls _ _)];rfl
theorem aaP(l:List Nat):u8I (nI l)=bU l:=by unfold u8I nI bU; rw [List.map_map]; rfl
def JH(a b c d:Wd)(s f g fl:Int):List Nat:=[1,(fl+(bif iR a b c d then 8 else 0)).toNat]++b2 s++b2 f++b2 g++b4 a.v++b4 b.v++b4 c.v++b4 d.v++b2 ((gQ a b c d).a.v / 65536)++b2 ((gQ a b c d).b.v / 65536)++b2 ((gQ a b c d).c.v / 65536)
def agN (a b c d:Wd) (s f g fl:Int):List Nat:=vk (JH a b c d s f g fl)
def iJ (x:Int):Prop:=0<=x/\x<=65535
theorem aoa(a b c d:Wd):vH a b c d=gQ a b c d:=by unfold vH; simp only [aQ]
theorem X5(a b c d:Wd):Ud a b c d=iR a b c d:=by unfold Ud; simp only [aQ]
theorem ase(l m:List Nat):nI (l++m)=nI l++nI m:=by unfold nI; rw [List.map_append]
theorem Bl {P:Program} {K:World->Prop} {ob:Ob} (h:lJ P ob):kF P K ob:=by
 cases ob with
 | call f args v=>exact fun w _=>h w
 | test p xs v=>exact h
theorem OZ{P:Program}{K:World->Prop}:∀ ob∈([]:List Ob),kF P K ob:=fun ob h=>by cases h
theorem oV{P:Program}{K:World->Prop}{a:Ob}{l:List Ob}(ha:kF P K a)(hl:∀ ob∈l,kF P K ob):∀ ob∈a::l,kF P K ob:=fun ob h=>by
 rcases List.mem_cons.1 h with rfl | h
 . exact ha
 . exact hl ob h
theorem aob{T:TypeId}{k:IntKind}{a b:Int}{r:Bool}(h:decide (a<=b)=r):lJ Tryz.prog (asa T k a b r):=by subst h; exact auI T k a b
theorem agO{a r:Bool}(h:a=r):lJ Tryz.prog (oIs a r):=by subst h; exact rfl
theorem MC{a b c d:Wd}{s f g:Int}(hs:dR (.int .i64 s))(hf:dR (.int .i64 f))(hg:dR (.int .i64 g)):eP (Iy a b c d s f g):=fun v hv=>by
 simp only [Iy,List.mem_cons,List.not_mem_nil,or_false] at hv;rcases hv with rfl | rfl | rfl | rfl | rfl | rfl | rfl
 . exact g_ _
 . exact g_ _
 . exact g_ _
 . exact g_ _
 . exact hs
 . exact hf
 . exact hg
theorem rX {x:Int} (h:iJ x):dR (.int .i64 x):=DW (by unfold iJ at h; omega)
theorem gZ.of_heap{w w1:World}(h:gZ w)(hk:∀ k∈[4],w1.heap[k]?=w.heap[k]?):gZ w1:=by
 have h' : w.var? Tryz.prog "astrolabe/crc.four" = some _ := h;show w1.var? Tryz.prog "astrolabe/crc.four" = some _;unfold World.var? at h' ⊢;rw [show Tryz.prog.globalNamed "astrolabe/crc.four" = some 4 by kernel_rfl] at h' ⊢;simp only [Option.bind_some] at h' ⊢;rw [hk _ (by simp)]; exact h'
theorem Y9{lits:List (FuncId×AV)}{shs:List (FuncId×Sh)}{br:List (Nat×Bool)}(tab:List (Ql gZ)){fuel:Nat}{f:FuncId}{vws:List (List AV)}{args:List AV}{ins:List Value}{t:Bool}{cas:List CA}{obs:List Ob}
 (h:AY (NW lits shs br vws) (Dp tab) fuel f vws args ins=some (t,cas,obs)) (hg:eP ins) (ho:∀ ob∈obs,kF Tryz.prog gZ ob) (w:World) (hw:gZ w) (ss:List Value)
 (hss:∀(i:Nat) cs,vws[i]?=some cs->∃ v,ss[i]?=some v/\Sl w v (ay (dV ins) cs)) (h1:∀ v∈ss,v.oneCell'=true) {vals:List Value} (hvs:ay (E0 (ρS ins ss)) args=vals) :
 Calls Tryz.prog f vals.toArray w fun e w'=>(∃ us,b_ [] w' us cas/\e=.returned (LQ t us))/\ah w w' [] :=
 NZ (cx:=NW lits shs br vws) (by kernel_rfl) (fun t n g h=>by cases h) (Qm tab) rfl h hg ho w [4] (fun k hk=>by simp at hk; subst hk; exact hw.lt) (fun w1 hk=>gZ.of_heap hw hk) ss hss h1 hvs
theorem axr(x0 x1 x2 x3 y0 y1 y2 y3:Int)(w:World):(Op.equalIn 9999 44 (.agg #[.int .i32 x0,.int .i32 x1,.int .i32 x2,.int .i32 x3]) (.agg #[.int .i32 y0,.int .i32 y1,.int .i32 y2,.int .i32 y3])).run Tryz.prog w=.ok (x0==y0&&x1==y1&&x2==y2&&x3==y3) w:=by
 have u3:=Tryz.underlying21;have k3:=Tryz.isAgg21;have z3:=Tryz.sizeOf21;rw [show(9999:Nat)=9998+1 from rfl,Op.equalIn];simp only [Sem.run_bind,run_underlying Tryz.underlying44,Result.andThen_ok];simp only [Std.Legacy.Range.forIn_eq_forIn_range',Std.Legacy.Range.size,Nat.sub_zero,Nat.add_sub_cancel,Nat.div_one,List.range'_succ,List.range'_zero,List.forIn_cons,List.forIn_nil];go_simp;by_cases h0:x0=y0<;>by_cases h1:x1=y1<;>by_cases h2:x2=y2<;>by_cases h3:x3=y3<;>simp [h0,h1,h2,h3]
theorem eqS (a0 a1 a2 a3 b0 b1 b2 b3 s f g s' f' g':Int) (w:World):(Op.equalIn 10000 46 (.agg #[.int .i32 a0,.int .i32 a1,.int .i32 a2,.int .i32 a3,.int .i64 s,.int .i64 f,.int .i64 g]) (.agg #[.int .i32 b0,.int .i32 b1,.int .i32 b2,.int .i32 b3,.int .i64 s',.int .i64 f',.int .i64 g'])).run Tryz.prog w =
 .ok ((a0==b0&&a1==b1&&a2==b2&&a3==b3)&&s==s'&&f==f'&&g==g') w:=by
 have u3:=Tryz.underlying3;have k3:=Tryz.isAgg3;have z3:=Tryz.sizeOf3;have u4:=Tryz.underlying44;have k4:=Tryz.isAgg44;have z4:=Tryz.sizeOf44;have q:=axr a0 a1 a2 a3 b0 b1 b2 b3 w;rw [show(10000:Nat)=9999+1 from rfl,Op.equalIn];simp only [Sem.run_bind,run_underlying Tryz.underlying46,Result.andThen_ok];go_simp;by_cases h0:a0=b0<;>by_cases h1:a1=b1<;>by_cases h2:a2=b2<;>by_cases h3:a3=b3<;>by_cases h4:s=s'<;>by_cases h5:f=f'<;>by_cases h6:g=g'<;>simp [h0,h1,h2,h3,h4,h5,h6]
def kD (s f g:Int):Bool:=decide (0<=s/\s<=65535/\0<=f/\f<=65535/\0<=g/\g<=65535)
theorem O1(s f g:Int):kD s f g=true↔iJ s/\iJ f/\iJ g:=by unfold kD iJ; simp; omega
theorem Y_(a b c d:Wd)(s f g:Int):bF (dn [] [] [(7,true)]) (aZ []) 400 62 [.agg (bQ 7 0)] (Iy a b c d s f g)=some (.bool false,[dh 3 .i64 s 0 true]):=by kernel_rfl
theorem Za(a b c d:Wd)(s f g:Int):bF (dn [] [] [(7,false),(8,true)]) (aZ []) 400 62 [.agg (bQ 7 0)] (Iy a b c d s f g)=some (.bool false,[lq 3 .i64 s 65535 true,dh 3 .i64 s 0 false]):=by kernel_rfl
theorem Zb(a b c d:Wd)(s f g:Int):bF (dn [] [] [(7,false),(8,false),(9,true)]) (aZ []) 400 62 [.agg (bQ 7 0)] (Iy a b c d s f g)=some (.bool false,[dh 3 .i64 f 0 true,lq 3 .i64 s 65535 false,dh 3 .i64 s 0 false]):=by kernel_rfl
theorem Zc(a b c d:Wd)(s f g:Int):bF (dn [] [] [(7,false),(8,false),(9,false),(10,true)]) (aZ []) 400 62 [.agg (bQ 7 0)] (Iy a b c d s f g)=some (.bool false,[lq 3 .i64 f 65535 true,dh 3 .i64 f 0 false,lq 3 .i64 s 65535 false,dh 3 .i64 s 0 false]):=by kernel_rfl
theorem Zd(a b c d:Wd)(s f g:Int):bF (dn [] [] [(7,false),(8,false),(9,false),(10,false),(11,true)]) (aZ []) 400 62 [.agg (bQ 7 0)] (Iy a b c d s f g)=some (.bool false,[dh 3 .i64 g 0 true,lq 3 .i64 f 65535 false,dh 3 .i64 f 0 false,lq 3 .i64 s 65535 false,dh 3 .i64 s 0 false]):=by kernel_rfl
theorem Ze(a b c d:Wd)(s f g:Int):bF (dn [] [] [(7,false),(8,false),(9,false),(10,false),(11,false),(12,true)]) (aZ []) 400 62 [.agg (bQ 7 0)] (Iy a b c d s f g)=some (.bool false,[lq 3 .i64 g 65535 true,dh 3 .i64 g 0 false,lq 3 .i64 f 65535 false,dh 3 .i64 f 0 false,lq 3 .i64 s 65535 false,dh 3 .i64 s 0 false]):=by kernel_rfl
theorem Zf(a b c d:Wd)(s f g:Int):bF (dn [] [] [(7,false),(8,false),(9,false),(10,false),(11,false),(12,false)]) (aZ []) 400 62 [.agg (bQ 7 0)] (Iy a b c d s f g)=some (.bool true,[lq 3 .i64 g 65535 false,dh 3 .i64 g 0 false,lq 3 .i64 f 65535 false,dh 3 .i64 f 0 false,lq 3 .i64 s 65535 false,dh 3 .i64 s 0 false]):=by kernel_rfl
theorem Iz(a b c d:Wd)(s f g:Int)(hg:eP (Iy a b c d s f g))(w:World):Calls Tryz.prog 62 #[Gx a b c d s f g] w fun e w'=>e=.returned (.bool (kD s f g))/\ah w w' []:=by
 by_cases h0:s<0
 . rw [show kD s f g=false by unfold kD; simp; omega]
   exact aG _ (Y_ a b c d s f g) hg (gI (aU (by simp; omega))) w
 by_cases h1:65535<s
 . rw [show kD s f g=false by unfold kD; simp; omega]
   exact aG _ (Za a b c d s f g) hg (eF (fV (by simp; omega)) (gI (aU (by simp; omega)))) w
 by_cases h2:f<0
 . rw [show kD s f g=false by unfold kD; simp; omega]
   exact aG _ (Zb a b c d s f g) hg (eF (aU (by simp; omega)) (eF (fV (by simp; omega)) (gI (aU (by simp; omega))))) w
 by_cases h3:65535<f
 . rw [show kD s f g=false by unfold kD; simp; omega]
   exact aG _ (Zc a b c d s f g) hg (eF (fV (by simp; omega)) (eF (aU (by simp; omega)) (eF (fV (by simp; omega)) (gI (aU (by simp; omega)))))) w
 by_cases h4:g<0
 . rw [show kD s f g=false by unfold kD; simp; omega]
   exact aG _ (Zd a b c d s f g) hg (eF (aU (by simp; omega)) (eF (fV (by simp; omega)) (eF (aU (by simp; omega)) (eF (fV (by simp; omega)) (gI (aU (by simp; omega))))))) w
 by_cases h5:65535<g
 . rw [show kD s f g=false by unfold kD; simp; omega]
   exact aG _ (Ze a b c d s f g) hg (eF (fV (by simp; omega)) (eF (aU (by simp; omega)) (eF (fV (by simp; omega)) (eF (aU (by simp; omega)) (eF (fV (by simp; omega)) (gI (aU (by simp; omega)))))))) w
 rw [show kD s f g=true by unfold kD; simp; omega];exact aG _ (Zf a b c d s f g) hg (eF (fV (by simp; omega)) (eF (aU (by simp; omega)) (eF (fV (by simp; omega)) (eF (aU (by simp; omega)) (eF (fV (by simp; omega)) (gI (aU (by simp; omega)))))))) w
def asf:eG where
 f:=214
 fn:=aln
 ok:=fun us v hv hg=>by
  unfold aln at hv;split at hv
  . rename_i c b
    injection hv with hv;subst hv;exact⟨acV _ _,fun w=>Xt c b (aju (h_ (hg (.int .i32 c) (by simp)))) (Qn (h_ (hg (.int .u8 b) (by simp)))) w⟩
  . cases hv
def r2(x:Int):List Int:=[IntKind.u8.wrap (IntKind.i64.wrap ((x%65536).tdiv 256)),IntKind.u8.wrap (IntKind.i64.wrap ((x%65536).tmod 256))]
def r4(x:Int):List Int:=[IntKind.u8.wrap (IntKind.i64.wrap ((IntKind.i64.wrap x%4294967296).tdiv 16777216)),IntKind.u8.wrap (IntKind.i64.wrap ((IntKind.i64.wrap ((IntKind.i64.wrap x%4294967296).tdiv 65536)).tmod 256)),IntKind.u8.wrap (IntKind.i64.wrap ((IntKind.i64.wrap ((IntKind.i64.wrap x%4294967296).tdiv 256)).tmod 256)),IntKind.u8.wrap (IntKind.i64.wrap ((IntKind.i64.wrap x%4294967296).tmod 256))]
def JI(l:List Int):List Int:=l++[IntKind.u8.wrap (IntKind.i32.wrap ((foldI 65535 l).tdiv 256)),IntKind.u8.wrap (IntKind.i32.wrap ((foldI 65535 l).tmod 256))]
def adD(a b c d:Wd)(s f g fl r p y:Int):List Int:=[1,IntKind.u8.wrap fl]++r2 s++r2 f++r2 g++r4 a.v++r4 b.v++r4 c.v++r4 d.v++r2 (IntKind.i64.wrap r)++r2 (IntKind.i64.wrap p)++r2 (IntKind.i64.wrap y)
def ji (x:Wd):Int:=(wL (kW x.v) (kW 16)).v
def adE:List (FuncId×AV):=[(62,.lit (.bool true))]
def rsh:List (FuncId×Sh):=[(64,.two (.agg 4) .one),(127,.agg 4),(214,.one),(123,.one),(138,.one)]
def Ee (a b c d:Wd) (s f g:Int) (r:Bool):Ob:=.call 62 [Gx a b c d s f g] (.bool r)
def CP (x lo hi:Int):List Ob:=[asa 3 .i64 x hi true,Dq 3 .i64 x lo true]
def adF(r p y fl s f g:Int):List Ob:=CP g 0 65535++CP f 0 65535++CP s 0 65535++CP fl 0 15++CP (IntKind.i64.wrap y) (-32768) 32767++CP (IntKind.i64.wrap p) (-32768) 32767++CP (IntKind.i64.wrap r) (-32768) 32767
def agP(a b c d:Wd)(s f g fl fl':Int)(l:Bool):List Ob:=adF (ji (vH a b c d).a) (ji (vH a b c d).b) (ji (vH a b c d).c) fl' s f g++[oIs (Ud a b c d) l,lq 3 .i64 fl 7 false,dh 3 .i64 fl 0 false,Ee a b c d s f g true]
theorem O4{x k:Int}(hx:0<=x)(hk:0<=k):x.tdiv k=x / k:=Int.tdiv_eq_ediv_of_nonneg hx
theorem JJ{x k:Int}(hx:0<=x):x.tmod k=x%k:=Int.tmod_eq_emod_of_nonneg hx
theorem asg(x:Int):r2 x=nI (b2 x):=by
 unfold r2 nI b2 bC;rw [O4 (by omega) (by decide),JJ (by omega),IntKind.wrap_u8,IntKind.wrap_i64,IntKind.wrap_u8,IntKind.wrap_i64];simp only [List.map_cons,List.map_nil];congr 1
 . omega
 . congr 1
   omega
theorem ash{x:Int}(h:-2147483648<=x/\x<=2147483647):r4 x=nI (b4 x):=by
 unfold r4 nI b4 bC;have e:IntKind.i64.wrap x=x:=by rw [IntKind.wrap_i64]; omega
 rw [e];have w:∀ y:Int,0<=y->y<=4294967295->IntKind.i64.wrap y=y:=fun y h1 h2=>by rw [IntKind.wrap_i64]; omega
 rw [O4 (by omega) (by decide),O4 (by omega) (by decide),O4 (by omega) (by decide),JJ (x:=x%4294967296) (by omega)];rw [w (x%4294967296 / 65536) (by omega) (by omega),w (x%4294967296 / 256) (by omega) (by omega),w (x%4294967296 / 16777216) (by omega) (by omega),w (x%4294967296%256) (by omega) (by omega)];rw [JJ (by omega),JJ (by omega),w (x%4294967296 / 65536%256) (by omega) (by omega),w (x%4294967296 / 256%256) (by omega) (by omega)];simp only [IntKind.wrap_u8];simp only [List.map_cons,List.map_nil];congr 1
 . omega
 . congr 1
   . omega
   . congr 1
     . omega
     . congr 1
       omega
theorem IB(l:List Nat):JI (nI l)=nI (vk l):=by
 have h:=RZ l 65535 (by decide);have h':foldI 65535 (nI l)=(bP 65535 l:Nat):=h;have hl:=FM (c:=65535) (by decide) l;unfold JI vk;rw [h',O4 (by omega) (by decide),JJ (by omega),IntKind.wrap_u8,IntKind.wrap_u8,IntKind.wrap_i32,IntKind.wrap_i32];unfold nI;have e1:(((bP 65535 l:Nat):Int) / 256+2147483648)%4294967296 - 2147483648=((bP 65535 l / 256:Nat):Int):=by omega
 have e2:(((bP 65535 l:Nat):Int)%256+2147483648)%4294967296 - 2147483648=((bP 65535 l%256:Nat):Int):=by omega
 rw [List.map_append,e1,e2,show((bP 65535 l / 256:Nat):Int)%256=((bP 65535 l / 256:Nat):Int) by omega,show((bP 65535 l%256:Nat):Int)%256=((bP 65535 l%256:Nat):Int) by omega];rfl
theorem MF(x:Wd):ji x=x.v / 65536:=by
 unfold ji;rw [aQ];show wH x.v (kW 16).v=_;unfold wH;rw [show sh (kW 16).v=16 by decide +kernel];rfl
theorem wdB (x:Wd):-2147483648<=x.v/\x.v<=2147483647:=by have:=x.ok; unfold aB at this; exact this
theorem R_(a b c d:Wd){s f g fl fl':Int}(h0:0<=fl/\fl<=7)(hl:fl'=fl+(bif iR a b c d then 8 else 0)) :
 adD a b c d s f g fl' (ji (vH a b c d).a) (ji (vH a b c d).b) (ji (vH a b c d).c)=nI (JH a b c d s f g fl):=by
 have w:∀ x:Wd,IntKind.i64.wrap (x.v / 65536)=x.v / 65536:=fun x=>by have:=wdB x; rw [IntKind.wrap_i64]; omega
 unfold adD JH;simp only [ase,asg,ash (wdB _),aoa,MF,w];rw [IntKind.wrap_u8,<- hl];have hb:0<=fl'/\fl'<=15:=by rw [hl]; cases iR a b c d<;>simp<;>omega
 have e:nI [1,fl'.toNat]=[1,fl'%256]:=by
  show [(1:Int),((fl'.toNat:Nat):Int)]=_;rw [show((fl'.toNat:Nat):Int)=fl'%256 by omega]
 rw [e]
 all_goals rfl
theorem nY {x lo hi:Int} (h1:lo<=x) (h2:x<=hi):∀ ob∈CP x lo hi,kF Tryz.prog gZ ob:=oV (Bl (aob (by simpa using h2))) (oV (Bl (rW (by simpa using h1))) OZ)
theorem qx{P:Program}{K:World->Prop}{l m:List Ob}(ha:∀ ob∈l,kF P K ob)(hm:∀ ob∈m,kF P K ob):∀ ob∈l++m,kF P K ob:=fun ob h=>(List.mem_append.1 h).elim (ha ob) (hm ob)
theorem akg {r p y:Wd} {fl s f g:Int} (hfl:0<=fl/\fl<=15) (hs:iJ s) (hf:iJ f) (hg:iJ g):∀ ob∈adF (ji r) (ji p) (ji y) fl s f g,kF Tryz.prog gZ ob:=by
 have w:∀ x:Wd,-32768<=IntKind.i64.wrap (ji x)/\IntKind.i64.wrap (ji x)<=32767:=fun x=>by have:=wdB x; rw [MF,IntKind.wrap_i64]; omega
 unfold adF;exact qx (qx (qx (qx (qx (qx (nY hg.1 hg.2) (nY hf.1 hf.2)) (nY hs.1 hs.2)) (nY hfl.1 hfl.2)) (nY (w y).1 (w y).2)) (nY (w p).1 (w p).2)) (nY (w r).1 (w r).2)
def qy(h l:Int):Int:=(256*h+l+32768)%65536 - 32768
def JK(h l:Int):Int:=IntKind.i64.wrap (IntKind.i64.wrap (256*IntKind.i64.wrap h)+IntKind.i64.wrap l)
theorem agQ(h l:Int):bF (dn [] [(138,.one)] [(7,false)]) (aZ [Qp]) 400 47 [.opq 0,.opq 1] [.int .u8 h,.int .u8 l]=some (.int .i32 (IntKind.i32.wrap (JK h l%65536)),[Dq 2 .i64 (JK h l%65536) 32768 false]):=by kernel_rfl
theorem agR(h l:Int):bF (dn [] [(138,.one)] [(7,true)]) (aZ [Qp]) 400 47 [.opq 0,.opq 1] [.int .u8 h,.int .u8 l]=some (.int .i32 (IntKind.i32.wrap (IntKind.i64.wrap (JK h l%65536 - 65536))),[Dq 2 .i64 (JK h l%65536) 32768 true]):=by kernel_rfl
theorem Zg(h l:Int)(hh:0<=h/\h<=255)(hl:0<=l/\l<=255)(w:World):Calls Tryz.prog 47 #[.int .u8 h,.int .u8 l] w fun e w'=>e=.returned (.int .i32 (qy h l))/\ah w w' []:=by
 have e:JK h l=256*h+l:=by
  unfold JK;rw [show IntKind.i64.wrap h=h by rw [IntKind.wrap_i64]; omega,show IntKind.i64.wrap l=l by rw [IntKind.wrap_i64]; omega,show IntKind.i64.wrap (256*h)=256*h by rw [IntKind.wrap_i64]; omega,IntKind.wrap_i64];omega
 have hg:eP [.int .u8 h,.int .u8 l]:=fun v hv=>by
  simp at hv;rcases hv with rfl | rfl
  . exact Md hh
  . exact Md hl
 by_cases hc:32768<=(256*h+l)%65536
 . have:=aG _ (agR h l) hg (gI (rW (by rw [e]; simpa using hc))) w
   rw [e,show IntKind.i32.wrap (IntKind.i64.wrap ((256*h+l)%65536 - 65536))=qy h l by unfold qy; rw [IntKind.wrap_i64,IntKind.wrap_i32]; omega] at this;exact this
 . have:=aG _ (agQ h l) hg (gI (rW (by rw [e]; simpa using hc))) w
   rw [e,show IntKind.i32.wrap ((256*h+l)%65536)=qy h l by unfold qy; rw [IntKind.wrap_i32]; omega] at this;exact this
def alM:List Value->Option Value
 | [.int .u8 h,.int .u8 l]=>some (.int .i32 (qy h l))
 | _=>none
theorem akh (h l:Int):-2147483648<=qy h l/\qy h l<=2147483647:=by unfold qy; omega
def asi:eG where
 f:=47
 fn:=alM
 ok:=fun us v hv hg=>by
  unfold alM at hv;split at hv
  . rename_i h l
    injection hv with hv;subst hv;exact⟨.inl (.inl (RS (akh h l))),fun w=>Zg h l (Qn (h_ (hg (.int .u8 h) (by simp)))) (Qn (h_ (hg (.int .u8 l) (by simp)))) w⟩
  . cases hv
def vb(B:Nat->Int)(n:Nat):List Value:=(List.range n).map fun i=>.int .u8 (B i)
def Bo(B:Nat->Int)(i:Nat):Wd:=kW (qy (B (2*i)) (B (2*i+1)))
def nextK (a b c d:Wd) (B:Nat->Int):Q4:=zM (kW a.v) (kW b.v) (kW c.v) (kW d.v) (Bo B 0) (Bo B 1) (Bo B 2) (Bo B 3) (Bo B 4) (Bo B 5) (Bo B 6) (Bo B 7) (Bo B 8)
def qA (B:Nat->Int):Int:=vG (nT (Bo B 3) (Bo B 4) (Bo B 5)) (nU (Bo B 6) (Bo B 7) (Bo B 8))
def xB(a b c d:Wd)(s f g:Int)(B:Nat->Int):List Value:=Iy a b c d s f g++vb B 20
noncomputable def Qx:List (Ql gZ):=[asf.k,Qp.k,axq.k,ac5.k,asi.k,ar6.k]
def fsh:List (FuncId×Sh):=(47,.one)::rsh
def nZ(x:Int):Int:=IntKind.i64.wrap ((IntKind.i64.wrap (x+1)).tmod 65536)
def front (B:Nat->Int) (n:Nat):List Int:=(List.range n).map B
def aki (B:Nat->Int) (r:Bool):Ob:=.test (.bin .neq 9) [.string (Aa (JI (front B 18))),.string (Aa (front B 20))] (.bool r)
def fbr(n:Nat)(l:Bool):List (Nat×Bool):=[(60,false),(70,false),(71,false),(76,l)]++[n,n+1,n+3,n+4,n+6,n+7,n+8,n+9,n+10,n+11,n+12,n+13,n+14,n+15].map fun k=>(k,true)
def Ef (a b c d:Wd) (s f g fl:Int):CA:=.l (u8I (JI (adD a b c d s f g fl (ji (vH a b c d).a) (ji (vH a b c d).b) (ji (vH a b c d).c))))
def st4 (x:Q4) (s f g:Int):Value:=Gx x.a x.b x.c x.d s f g
def fOk(a b c d:Wd)(s f g fl:Int)(B:Nat->Int)(x:Q4)(l:Bool)(fl':Int):List Ob:=agP x.a x.b x.c x.d (nZ s) f (nZ g) fl fl' l++[aki B false,Ee a b c d s f g true]
theorem agT (a b c d:Wd) (s f g:Int) (B:Nat->Int):AY (NW adE fsh (fbr 81 false) [bQ 20 7]) (Dp Qx) 3000 25 [bQ 20 7] [.agg (bQ 7 0),.vw 1000000 0 20] (xB a b c d s f g B) =
 some (true,[.v (st4 (nextK a b c d B) (nZ s) f (nZ g)),Ef (nextK a b c d B).a (nextK a b c d B).b (nextK a b c d B).c (nextK a b c d B).d (nZ s) f (nZ g) (qA B),.v (.int .i64 0)],fOk a b c d s f g (qA B) B (nextK a b c d B) false (qA B)):=by kernel_rfl
theorem agU (a b c d:Wd) (s f g:Int) (B:Nat->Int):AY (NW adE fsh (fbr 82 true) [bQ 20 7]) (Dp Qx) 3000 25 [bQ 20 7] [.agg (bQ 7 0),.vw 1000000 0 20] (xB a b c d s f g B) =
 some (true,[.v (st4 (nextK a b c d B) (nZ s) f (nZ g)),Ef (nextK a b c d B).a (nextK a b c d B).b (nextK a b c d B).c (nextK a b c d B).d (nZ s) f (nZ g) (IntKind.i64.wrap (qA B+8)),.v (.int .i64 0)],fOk a b c d s f g (qA B) B (nextK a b c d B) true (IntKind.i64.wrap (qA B+8))):=by kernel_rfl
def bbr(k n:Nat)(l r:Bool):List (Nat×Bool):=[(60,true),(63,r),(k,l)]++[n,n+1,n+3,n+4,n+6,n+7,n+8,n+9,n+10,n+11,n+12,n+13].map fun k=>(k,true)
def adG(r p y s f g:Int):List Ob:=CP g 0 65535++CP f 0 65535++CP s 0 65535++CP (IntKind.i64.wrap y) (-32768) 32767++CP (IntKind.i64.wrap p) (-32768) 32767++CP (IntKind.i64.wrap r) (-32768) 32767
def bOb(a b c d:Wd)(s f g f':Int)(B:Nat->Int)(l r:Bool):List Ob:=adG (ji (vH a b c d).a) (ji (vH a b c d).b) (ji (vH a b c d).c) (nZ s) f' g++[oIs (Ud a b c d) l,Ee a b c d (nZ s) f' g true,dh 3 .i64 f 65535 r,aki B true,Ee a b c d s f g true]
def Qy(a b c d:Wd)(s f g f':Int)(B:Nat->Int)(l r:Bool)(fl:Int):Option (Bool×List CA×List Ob) :=
 some (true,[.v (Gx a b c d (nZ s) f' g),Ef a b c d (nZ s) f' g fl,.v (.int .i64 0)],bOb a b c d s f g f' B l r)
noncomputable def Qz (a b c d:Wd) (s f g:Int) (B:Nat->Int) (br:List (Nat×Bool)):Option (Bool×List CA×List Ob):=AY (NW adE fsh br [bQ 20 7]) (Dp Qx) 3000 25 [bQ 20 7] [.agg (bQ 7 0),.vw 1000000 0 20] (xB a b c d s f g B)
theorem agV(a b c d:Wd)(s f g:Int)(B:Nat->Int):Qz a b c d s f g B (bbr 68 73 false false)=Qy a b c d s f g f B false false 1:=by kernel_rfl
theorem agW(a b c d:Wd)(s f g:Int)(B:Nat->Int):Qz a b c d s f g B (bbr 68 73 true false)=Qy a b c d s f g f B true false 9:=by kernel_rfl
theorem agX(a b c d:Wd)(s f g:Int)(B:Nat->Int):Qz a b c d s f g B (bbr 69 74 false true)=Qy a b c d s f g (IntKind.i64.wrap (f+1)) B false true 1:=by kernel_rfl
theorem agY(a b c d:Wd)(s f g:Int)(B:Nat->Int):Qz a b c d s f g B (bbr 69 74 true true)=Qy a b c d s f g (IntKind.i64.wrap (f+1)) B true true 9:=by kernel_rfl
