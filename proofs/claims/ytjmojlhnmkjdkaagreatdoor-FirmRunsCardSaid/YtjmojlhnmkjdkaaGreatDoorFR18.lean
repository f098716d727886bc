/- Texts of this claim, side by side. -/
import Derived.Test.YtjmojlhnmkjdkaaGreatDoorEntK
import Derived.Test.YtjmojlhnmkjdkaaGreatDoorFR17
set_option linter.unusedVariables false
set_option maxRecDepth 100000
namespace Go.Proofs.YtjmojlhnmkjdkaaGreatDoor
namespace Xi
open Go Go.RowKit
theorem atW (T:TypeId) (k:IntKind) (a b:Int):uI Tryz.prog (.bin .neq T) [.int k a,.int k b] (.bool (a != b)):=fun x y w=>by simp [eqGuard,binOp,Op.intCmp]
theorem atX (T:TypeId) (k:IntKind) (a b:Int):uI Tryz.prog (.bin .leq T) [.int k a,.int k b] (.bool (decide (a<=b))):=fun x y w=>by simp [eqGuard,binOp,Op.intCmp]
def arK (T:TypeId) (k:IntKind) (a b:Int) (r:Bool):Ob:=.test (.bin .leq T) [.int k a,.int k b] (.bool r)
def oIs (a r:Bool):Ob:=.test .is [.bool a] (.bool r)
def stV (a b c d:Wd) (s f g:Int):Value:=.agg #[.int .i32 a.v,.int .i32 b.v,.int .i32 c.v,.int .i32 d.v,.int .i64 s,.int .i64 f,.int .i64 g]
def Iu (a b c d:Wd) (s f g:Int):List Value:=[.int .i32 a.v,.int .i32 b.v,.int .i32 c.v,.int .i32 d.v,.int .i64 s,.int .i64 f,.int .i64 g]
def foldI (c:Int) (l:List Int):Int:=l.foldl vg c
def u8I (l:List Int):List Value:=l.map (Value.int .u8)
def vF (a b c d:Wd):T3:=iQ (kW a.v) (kW b.v) (kW c.v) (kW d.v)
def TQ (a b c d:Wd):Bool:=iP (kW a.v) (kW b.v) (kW c.v) (kW d.v)
end Xi

namespace Xi
open Go Go.RowKit Go.Deep
def bn (x:Int) (k:Int):Nat:=(x / k % 256).toNat
def b2 (x:Int):List Nat:=[bn x 256,bn x 1]
def b4 (x:Int):List Nat:=[bn x 16777216,bn x 65536,bn x 256,bn x 1]
theorem uh (x k:Int):bn x k < 256:=by unfold bn; omega
def nI (l:List Nat):List Int:=l.map fun (x:Nat)=>(x:Int)
theorem RF:∀ (l:List Nat) (c:Nat),c < 65536->foldI c (nI l)=(jk c l:Nat)
 | [],c,_=>rfl
 | x :: l,c,h=>by
  show foldI (vg c x) (nI l)=_;rw [afW c x h,RF l _ (Lu _ _)];rfl
theorem aaH (l:List Nat):u8I (nI l)=fJ l:=by unfold u8I nI fJ; rw [List.map_map]; rfl
def Jz (a b c d:Wd) (s f g fl:Int):List Nat:=[1,(fl+(bif iP a b c d then 8 else 0)).toNat] ++ b2 s ++ b2 f ++ b2 g ++ b4 a.v ++ b4 b.v ++ b4 c.v ++ b4 d.v ++ b2 ((iQ a b c d).a.v / 65536) ++ b2 ((iQ a b c d).b.v / 65536) ++ b2 ((iQ a b c d).c.v / 65536)
def agp (a b c d:Wd) (s f g fl:Int):List Nat:=rM (Jz a b c d s f g fl)
def iI (x:Int):Prop:=0<=x/\x<=65535
theorem anI (a b c d:Wd):vF a b c d=iQ a b c d:=by unfold vF; simp only [aU]
theorem XO (a b c d:Wd):TQ a b c d=iP a b c d:=by unfold TQ; simp only [aU]
theorem arN (l m:List Nat):nI (l ++ m)=nI l ++ nI m:=by unfold nI; rw [List.map_append]
theorem yL {P:Program} {K:World->Prop} {ob:Ob} (h:kY P ob):kF P K ob:=by
 cases ob with
 | call f args v=>exact fun w _=>h w
 | test p xs v=>exact h
theorem OI {P:Program} {K:World->Prop}:∀ ob∈([]:List Ob),kF P K ob:=fun ob h=>by cases h
theorem nG {P:Program} {K:World->Prop} {a:Ob} {l:List Ob} (ha:kF P K a) (hl:∀ ob∈l,kF P K ob):∀ ob∈a :: l,kF P K ob:=fun ob h=>by
 rcases List.mem_cons.1 h with rfl | h
 . exact ha
 . exact hl ob h
theorem anJ {T:TypeId} {k:IntKind} {a b:Int} {r:Bool} (h:decide (a<=b)=r):kY Tryz.prog (arK T k a b r):=by subst h; exact atX T k a b
theorem agq {a r:Bool} (h:a=r):kY Tryz.prog (oIs a r):=by subst h; exact rfl
theorem XP {a b c d:Wd} {s f g:Int} (hs:dS (.int .i64 s)) (hf:dS (.int .i64 f)) (hg:dS (.int .i64 g)):fC (Iu a b c d s f g):=fun v hv=>by
 simp only [Iu,List.mem_cons,List.not_mem_nil,or_false] at hv;rcases hv with rfl | rfl | rfl | rfl | rfl | rfl | rfl
 . exact gX _
 . exact gX _
 . exact gX _
 . exact gX _
 . exact hs
 . exact hf
 . exact hg
theorem zM {x:Int} (h:iI x):dS (.int .i64 x):=DW (by unfold iI at h; omega)
theorem YV {lits:List (FuncId × AV)} {shs:List (FuncId × Sh)} {br:List (Nat × Bool)} (tab:List (LJ ug)) {fuel:Nat} {f:FuncId} {vws:List (List AV)} {args:List AV} {ins:List Value} {t:Bool} {cas:List CA} {obs:List Ob}
 (h:AU (NG lits shs br vws) (Dl tab) fuel f vws args ins=some (t,cas,obs)) (hg:fC ins) (ho:∀ ob∈obs,kF Tryz.prog ug ob) (w:World) (hw:ug w) (ss:List Value)
 (hss:∀ (i:Nat) cs,vws[i]?=some cs->∃ v,ss[i]?=some v/\Sl w v (au (dX ins) cs)) (h1:∀ v∈ss,v.oneCell'=true) {vals:List Value} (hvs:au (E0 (ρS ins ss)) args=vals) :
 Calls Tryz.prog f vals.toArray w fun e w'=>(∃ us,dh [] w' us cas/\e=.returned (Lc t us))/\ah w w' [] :=
 NI (cx:=NG lits shs br vws) (by kernel_rfl) (fun t n g h=>by cases h) (P_ tab) rfl h hg ho w [] (fun k hk=>by simp at hk) (fun w1 hk=>trivial) ss hss h1 hvs
def kC (s f g:Int):Bool:=decide (0<=s/\s<=65535/\0<=f/\f<=65535/\0<=g/\g<=65535)
theorem adu (s f g:Int):kC s f g=true↔iI s/\iI f/\iI g:=by unfold kC iI; simp; omega
theorem YW (a b c d:Wd) (s f g:Int):bJ (dn [] [] [(7,true)]) (bg []) 400 62 [.agg (bQ 7 0)] (Iu a b c d s f g)=some (.bool false,[cZ 3 .i64 s 0 true]):=by kernel_rfl
theorem YX (a b c d:Wd) (s f g:Int):bJ (dn [] [] [(7,false),(8,true)]) (bg []) 400 62 [.agg (bQ 7 0)] (Iu a b c d s f g)=some (.bool false,[lC 3 .i64 s 65535 true,cZ 3 .i64 s 0 false]):=by kernel_rfl
theorem YZ (a b c d:Wd) (s f g:Int):bJ (dn [] [] [(7,false),(8,false),(9,true)]) (bg []) 400 62 [.agg (bQ 7 0)] (Iu a b c d s f g)=some (.bool false,[cZ 3 .i64 f 0 true,lC 3 .i64 s 65535 false,cZ 3 .i64 s 0 false]):=by kernel_rfl
theorem Y0 (a b c d:Wd) (s f g:Int):bJ (dn [] [] [(7,false),(8,false),(9,false),(10,true)]) (bg []) 400 62 [.agg (bQ 7 0)] (Iu a b c d s f g)=some (.bool false,[lC 3 .i64 f 65535 true,cZ 3 .i64 f 0 false,lC 3 .i64 s 65535 false,cZ 3 .i64 s 0 false]):=by kernel_rfl
theorem Y1 (a b c d:Wd) (s f g:Int):bJ (dn [] [] [(7,false),(8,false),(9,false),(10,false),(11,true)]) (bg []) 400 62 [.agg (bQ 7 0)] (Iu a b c d s f g)=some (.bool false,[cZ 3 .i64 g 0 true,lC 3 .i64 f 65535 false,cZ 3 .i64 f 0 false,lC 3 .i64 s 65535 false,cZ 3 .i64 s 0 false]):=by kernel_rfl
theorem Y2 (a b c d:Wd) (s f g:Int):bJ (dn [] [] [(7,false),(8,false),(9,false),(10,false),(11,false),(12,true)]) (bg []) 400 62 [.agg (bQ 7 0)] (Iu a b c d s f g)=some (.bool false,[lC 3 .i64 g 65535 true,cZ 3 .i64 g 0 false,lC 3 .i64 f 65535 false,cZ 3 .i64 f 0 false,lC 3 .i64 s 65535 false,cZ 3 .i64 s 0 false]):=by kernel_rfl
theorem Y3 (a b c d:Wd) (s f g:Int):bJ (dn [] [] [(7,false),(8,false),(9,false),(10,false),(11,false),(12,false)]) (bg []) 400 62 [.agg (bQ 7 0)] (Iu a b c d s f g)=some (.bool true,[lC 3 .i64 g 65535 false,cZ 3 .i64 g 0 false,lC 3 .i64 f 65535 false,cZ 3 .i64 f 0 false,lC 3 .i64 s 65535 false,cZ 3 .i64 s 0 false]):=by kernel_rfl
theorem XQ (a b c d:Wd) (s f g:Int) (hg:fC (Iu a b c d s f g)) (w:World):Calls Tryz.prog 62 #[stV a b c d s f g] w fun e w'=>e=.returned (.bool (kC s f g))/\ah w w' []:=by
 by_cases h0:s < 0
 . rw [show kC s f g=false by unfold kC; simp; omega]
   exact aG _ (YW a b c d s f g) hg (gy (aV (by simp; omega))) w
 by_cases h1:65535 < s
 . rw [show kC s f g=false by unfold kC; simp; omega]
   exact aG _ (YX a b c d s f g) hg (eP (fU (by simp; omega)) (gy (aV (by simp; omega)))) w
 by_cases h2:f < 0
 . rw [show kC s f g=false by unfold kC; simp; omega]
   exact aG _ (YZ a b c d s f g) hg (eP (aV (by simp; omega)) (eP (fU (by simp; omega)) (gy (aV (by simp; omega))))) w
 by_cases h3:65535 < f
 . rw [show kC s f g=false by unfold kC; simp; omega]
   exact aG _ (Y0 a b c d s f g) hg (eP (fU (by simp; omega)) (eP (aV (by simp; omega)) (eP (fU (by simp; omega)) (gy (aV (by simp; omega)))))) w
 by_cases h4:g < 0
 . rw [show kC s f g=false by unfold kC; simp; omega]
   exact aG _ (Y1 a b c d s f g) hg (eP (aV (by simp; omega)) (eP (fU (by simp; omega)) (eP (aV (by simp; omega)) (eP (fU (by simp; omega)) (gy (aV (by simp; omega))))))) w
 by_cases h5:65535 < g
 . rw [show kC s f g=false by unfold kC; simp; omega]
   exact aG _ (Y2 a b c d s f g) hg (eP (fU (by simp; omega)) (eP (aV (by simp; omega)) (eP (fU (by simp; omega)) (eP (aV (by simp; omega)) (eP (fU (by simp; omega)) (gy (aV (by simp; omega)))))))) w
 rw [show kC s f g=true by unfold kC; simp; omega];exact aG _ (Y3 a b c d s f g) hg (eP (fU (by simp; omega)) (eP (aV (by simp; omega)) (eP (fU (by simp; omega)) (eP (aV (by simp; omega)) (eP (fU (by simp; omega)) (gy (aV (by simp; omega)))))))) w
def agr:fA where
 f:=214
 fn:=akT
 ok:=fun us v hv hg=>by
  unfold akT at hv;split at hv
  . rename_i c b
    injection hv with hv;subst hv;exact ⟨acN _ _,fun w=>Xf c b (ai4 (gY (hg (.int .i32 c) (by simp)))) (Qa (gY (hg (.int .u8 b) (by simp)))) w⟩
  . cases hv
def r2 (x:Int):List Int:=[IntKind.u8.wrap (IntKind.i64.wrap ((x % 65536).tdiv 256)),IntKind.u8.wrap (IntKind.i64.wrap ((x % 65536).tmod 256))]
def r4 (x:Int):List Int:=[IntKind.u8.wrap (IntKind.i64.wrap ((IntKind.i64.wrap x % 4294967296).tdiv 16777216)),IntKind.u8.wrap (IntKind.i64.wrap ((IntKind.i64.wrap ((IntKind.i64.wrap x % 4294967296).tdiv 65536)).tmod 256)),IntKind.u8.wrap (IntKind.i64.wrap ((IntKind.i64.wrap ((IntKind.i64.wrap x % 4294967296).tdiv 256)).tmod 256)),IntKind.u8.wrap (IntKind.i64.wrap ((IntKind.i64.wrap x % 4294967296).tmod 256))]
def CG (l:List Int):List Int:=l ++ [IntKind.u8.wrap (IntKind.i32.wrap ((foldI 65535 l).tdiv 256)),IntKind.u8.wrap (IntKind.i32.wrap ((foldI 65535 l).tmod 256))]
def adv (a b c d:Wd) (s f g fl r p y:Int):List Int:=[1,IntKind.u8.wrap fl] ++ r2 s ++ r2 f ++ r2 g ++ r4 a.v ++ r4 b.v ++ r4 c.v ++ r4 d.v ++ r2 (IntKind.i64.wrap r) ++ r2 (IntKind.i64.wrap p) ++ r2 (IntKind.i64.wrap y)
def jl (x:Wd):Int:=(wB (kW x.v) (kW 16)).v
def adw:List (FuncId × AV):=[(62,.lit (.bool true))]
def rsh:List (FuncId × Sh):=[(64,.two (.agg 4) .one),(127,.agg 4),(214,.one),(123,.one),(138,.one)]
def Ed (a b c d:Wd) (s f g:Int) (r:Bool):Ob:=.call 62 [stV a b c d s f g] (.bool r)
def CJ (x lo hi:Int):List Ob:=[arK 3 .i64 x hi true,Dn 3 .i64 x lo true]
def adx (r p y fl s f g:Int):List Ob:=CJ g 0 65535 ++ CJ f 0 65535 ++ CJ s 0 65535 ++ CJ fl 0 15 ++ CJ (IntKind.i64.wrap y) (-32768) 32767 ++ CJ (IntKind.i64.wrap p) (-32768) 32767 ++ CJ (IntKind.i64.wrap r) (-32768) 32767
def ags (a b c d:Wd) (s f g fl fl':Int) (l:Bool):List Ob:=adx (jl (vF a b c d).a) (jl (vF a b c d).b) (jl (vF a b c d).c) fl' s f g ++ [oIs (TQ a b c d) l,lC 3 .i64 fl 7 false,cZ 3 .i64 fl 0 false,Ed a b c d s f g true]
theorem OJ {x k:Int} (hx:0<=x) (hk:0<=k):x.tdiv k=x / k:=Int.tdiv_eq_ediv_of_nonneg hx
theorem JA {x k:Int} (hx:0<=x):x.tmod k=x % k:=Int.tmod_eq_emod_of_nonneg hx
theorem arO (x:Int):r2 x=nI (b2 x):=by
 unfold r2 nI b2 bn;rw [OJ (by omega) (by decide),JA (by omega),IntKind.wrap_u8,IntKind.wrap_i64,IntKind.wrap_u8,IntKind.wrap_i64];simp only [List.map_cons,List.map_nil];congr 1
 . omega
 . congr 1
   omega
theorem arP {x:Int} (h:-2147483648<=x/\x<=2147483647):r4 x=nI (b4 x):=by
 unfold r4 nI b4 bn;have e:IntKind.i64.wrap x=x:=by rw [IntKind.wrap_i64]; omega
 rw [e];have w:∀ y:Int,0<=y->y<=4294967295->IntKind.i64.wrap y=y:=fun y h1 h2=>by rw [IntKind.wrap_i64]; omega
 rw [OJ (by omega) (by decide),OJ (by omega) (by decide),OJ (by omega) (by decide),JA (x:=x % 4294967296) (by omega)];rw [w (x % 4294967296 / 65536) (by omega) (by omega),w (x % 4294967296 / 256) (by omega) (by omega),w (x % 4294967296 / 16777216) (by omega) (by omega),w (x % 4294967296 % 256) (by omega) (by omega)];rw [JA (by omega),JA (by omega),w (x % 4294967296 / 65536 % 256) (by omega) (by omega),w (x % 4294967296 / 256 % 256) (by omega) (by omega)];simp only [IntKind.wrap_u8];simp only [List.map_cons,List.map_nil];congr 1
 . omega
 . congr 1
   . omega
   . congr 1
     . omega
     . congr 1
       omega
theorem xX (l:List Nat):CG (nI l)=nI (rM l):=by
 have h:=RF l 65535 (by decide);have h':foldI 65535 (nI l)=(jk 65535 l:Nat):=h;have hl:=WE (c:=65535) (by decide) l;unfold CG rM;rw [h',OJ (by omega) (by decide),JA (by omega),IntKind.wrap_u8,IntKind.wrap_u8,IntKind.wrap_i32,IntKind.wrap_i32];unfold nI;have e1:(((jk 65535 l:Nat):Int) / 256+2147483648) % 4294967296 - 2147483648=((jk 65535 l / 256:Nat):Int):=by omega
 have e2:(((jk 65535 l:Nat):Int) % 256+2147483648) % 4294967296 - 2147483648=((jk 65535 l % 256:Nat):Int):=by omega
 rw [List.map_append,e1,e2,show ((jk 65535 l / 256:Nat):Int) % 256=((jk 65535 l / 256:Nat):Int) by omega,show ((jk 65535 l % 256:Nat):Int) % 256=((jk 65535 l % 256:Nat):Int) by omega];rfl
theorem LQ (x:Wd):jl x=x.v / 65536:=by
 unfold jl;rw [aU];show wo x.v (kW 16).v=_;unfold wo;rw [show sh (kW 16).v=16 by decide +kernel];rfl
theorem wdB (x:Wd):-2147483648<=x.v/\x.v<=2147483647:=by have:=x.ok; unfold aB at this; exact this
theorem RG (a b c d:Wd) {s f g fl fl':Int} (h0:0<=fl/\fl<=7) (hl:fl'=fl+(bif iP a b c d then 8 else 0)) :
 adv a b c d s f g fl' (jl (vF a b c d).a) (jl (vF a b c d).b) (jl (vF a b c d).c)=nI (Jz a b c d s f g fl):=by
 have w:∀ x:Wd,IntKind.i64.wrap (x.v / 65536)=x.v / 65536:=fun x=>by have:=wdB x; rw [IntKind.wrap_i64]; omega
 unfold adv Jz;simp only [arN,arO,arP (wdB _),anI,LQ,w];rw [IntKind.wrap_u8,<- hl];have hb:0<=fl'/\fl'<=15:=by rw [hl]; cases iP a b c d<;>simp<;>omega
 have e:nI [1,fl'.toNat]=[1,fl' % 256]:=by
  show [(1:Int),((fl'.toNat:Nat):Int)]=_;rw [show ((fl'.toNat:Nat):Int)=fl' % 256 by omega]
 rw [e]
 all_goals rfl
theorem oz {x lo hi:Int} (h1:lo<=x) (h2:x<=hi):∀ ob∈CJ x lo hi,kF Tryz.prog ug ob:=nG (yL (anJ (by simpa using h2))) (nG (yL (rO (by simpa using h1))) OI)
theorem qA {P:Program} {K:World->Prop} {l m:List Ob} (ha:∀ ob∈l,kF P K ob) (hm:∀ ob∈m,kF P K ob):∀ ob∈l ++ m,kF P K ob:=fun ob h=>(List.mem_append.1 h).elim (ha ob) (hm ob)
theorem ajN {r p y:Wd} {fl s f g:Int} (hfl:0<=fl/\fl<=15) (hs:iI s) (hf:iI f) (hg:iI g):∀ ob∈adx (jl r) (jl p) (jl y) fl s f g,kF Tryz.prog ug ob:=by
 have w:∀ x:Wd,-32768<=IntKind.i64.wrap (jl x)/\IntKind.i64.wrap (jl x)<=32767:=fun x=>by have:=wdB x; rw [LQ,IntKind.wrap_i64]; omega
 unfold adx;exact qA (qA (qA (qA (qA (qA (oz hg.1 hg.2) (oz hf.1 hf.2)) (oz hs.1 hs.2)) (oz hfl.1 hfl.2)) (oz (w y).1 (w y).2)) (oz (w p).1 (w p).2)) (oz (w r).1 (w r).2)
def lH (h l:Int):Int:=(256 * h+l+32768) % 65536 - 32768
def JB (h l:Int):Int:=IntKind.i64.wrap (IntKind.i64.wrap (256 * IntKind.i64.wrap h)+IntKind.i64.wrap l)
theorem agt (h l:Int):bJ (dn [] [(138,.one)] [(7,false)]) (bg [Qc]) 400 47 [.opq 0,.opq 1] [.int .u8 h,.int .u8 l]=some (.int .i32 (IntKind.i32.wrap (JB h l % 65536)),[Dn 2 .i64 (JB h l % 65536) 32768 false]):=by kernel_rfl
theorem agu (h l:Int):bJ (dn [] [(138,.one)] [(7,true)]) (bg [Qc]) 400 47 [.opq 0,.opq 1] [.int .u8 h,.int .u8 l]=some (.int .i32 (IntKind.i32.wrap (IntKind.i64.wrap (JB h l % 65536 - 65536))),[Dn 2 .i64 (JB h l % 65536) 32768 true]):=by kernel_rfl
theorem Y4 (h l:Int) (hh:0<=h/\h<=255) (hl:0<=l/\l<=255) (w:World):Calls Tryz.prog 47 #[.int .u8 h,.int .u8 l] w fun e w'=>e=.returned (.int .i32 (lH h l))/\ah w w' []:=by
 have e:JB h l=256 * h+l:=by
  unfold JB;rw [show IntKind.i64.wrap h=h by rw [IntKind.wrap_i64]; omega,show IntKind.i64.wrap l=l by rw [IntKind.wrap_i64]; omega,show IntKind.i64.wrap (256 * h)=256 * h by rw [IntKind.wrap_i64]; omega,IntKind.wrap_i64];omega
 have hg:fC [.int .u8 h,.int .u8 l]:=fun v hv=>by
  simp at hv;rcases hv with rfl | rfl
  . exact LK hh
  . exact LK hl
 by_cases hc:32768<=(256 * h+l) % 65536
 . have:=aG _ (agu h l) hg (gy (rO (by rw [e]; simpa using hc))) w
   rw [e,show IntKind.i32.wrap (IntKind.i64.wrap ((256 * h+l) % 65536 - 65536))=lH h l by unfold lH; rw [IntKind.wrap_i64,IntKind.wrap_i32]; omega] at this;exact this
 . have:=aG _ (agt h l) hg (gy (rO (by rw [e]; simpa using hc))) w
   rw [e,show IntKind.i32.wrap ((256 * h+l) % 65536)=lH h l by unfold lH; rw [IntKind.wrap_i32]; omega] at this;exact this
def ald:List Value->Option Value
 | [.int .u8 h,.int .u8 l]=>some (.int .i32 (lH h l))
 | _=>none
theorem ajO (h l:Int):-2147483648<=lH h l/\lH h l<=2147483647:=by unfold lH; omega
def agv:fA where
 f:=47
 fn:=ald
 ok:=fun us v hv hg=>by
  unfold ald at hv;split at hv
  . rename_i h l
    injection hv with hv;subst hv;exact ⟨.inl (.inl (Rw (ajO h l))),fun w=>Y4 h l (Qa (gY (hg (.int .u8 h) (by simp)))) (Qa (gY (hg (.int .u8 l) (by simp)))) w⟩
  . cases hv
def vb (B:Nat->Int) (n:Nat):List Value:=(List.range n).map fun i=>.int .u8 (B i)
def Bh (B:Nat->Int) (i:Nat):Wd:=kW (lH (B (2 * i)) (B (2 * i+1)))
def nextK (a b c d:Wd) (B:Nat->Int):Q4:=zL (kW a.v) (kW b.v) (kW c.v) (kW d.v) (Bh B 0) (Bh B 1) (Bh B 2) (Bh B 3) (Bh B 4) (Bh B 5) (Bh B 6) (Bh B 7) (Bh B 8)
def qB (B:Nat->Int):Int:=vC (nX (Bh B 3) (Bh B 4) (Bh B 5)) (nY (Bh B 6) (Bh B 7) (Bh B 8))
def xg (a b c d:Wd) (s f g:Int) (B:Nat->Int):List Value:=Iu a b c d s f g ++ vb B 20
noncomputable def Qk:List (LJ ug):=[agr.k,Qc.k,awn.k,acW.k,agv.k,arF.k]
def fsh:List (FuncId × Sh):=(47,.one) :: rsh
def oC (x:Int):Int:=IntKind.i64.wrap ((IntKind.i64.wrap (x+1)).tmod 65536)
def front (B:Nat->Int) (n:Nat):List Int:=(List.range n).map B
def ajP (B:Nat->Int) (r:Bool):Ob:=.test (.bin .neq 9) [.string (tJ (CG (front B 18))),.string (tJ (front B 20))] (.bool r)
def fbr (n:Nat) (l:Bool):List (Nat × Bool):=[(60,false),(70,false),(71,false),(76,l)] ++ [n,n+1,n+3,n+4,n+6,n+7,n+8,n+9,n+10,n+11,n+12,n+13,n+14,n+15].map fun k=>(k,true)
def Ee (a b c d:Wd) (s f g fl:Int):CA:=.l (u8I (CG (adv a b c d s f g fl (jl (vF a b c d).a) (jl (vF a b c d).b) (jl (vF a b c d).c))))
def st4 (x:Q4) (s f g:Int):Value:=stV x.a x.b x.c x.d s f g
def fOk (a b c d:Wd) (s f g fl:Int) (B:Nat->Int) (x:Q4) (l:Bool) (fl':Int):List Ob:=ags x.a x.b x.c x.d (oC s) f (oC g) fl fl' l ++ [ajP B false,Ed a b c d s f g true]
theorem agw (a b c d:Wd) (s f g:Int) (B:Nat->Int):AU (NG adw fsh (fbr 81 false) [bQ 20 7]) (Dl Qk) 3000 25 [bQ 20 7] [.agg (bQ 7 0),.vw 1000000 0 20] (xg a b c d s f g B) =
 some (true,[.v (st4 (nextK a b c d B) (oC s) f (oC g)),Ee (nextK a b c d B).a (nextK a b c d B).b (nextK a b c d B).c (nextK a b c d B).d (oC s) f (oC g) (qB B),.v (.int .i64 0)],fOk a b c d s f g (qB B) B (nextK a b c d B) false (qB B)):=by kernel_rfl
theorem agx (a b c d:Wd) (s f g:Int) (B:Nat->Int):AU (NG adw fsh (fbr 82 true) [bQ 20 7]) (Dl Qk) 3000 25 [bQ 20 7] [.agg (bQ 7 0),.vw 1000000 0 20] (xg a b c d s f g B) =
 some (true,[.v (st4 (nextK a b c d B) (oC s) f (oC g)),Ee (nextK a b c d B).a (nextK a b c d B).b (nextK a b c d B).c (nextK a b c d B).d (oC s) f (oC g) (IntKind.i64.wrap (qB B+8)),.v (.int .i64 0)],fOk a b c d s f g (qB B) B (nextK a b c d B) true (IntKind.i64.wrap (qB B+8))):=by kernel_rfl
def bbr (k n:Nat) (l r:Bool):List (Nat × Bool):=[(60,true),(63,r),(k,l)] ++ [n,n+1,n+3,n+4,n+6,n+7,n+8,n+9,n+10,n+11,n+12,n+13].map fun k=>(k,true)
def ady (r p y s f g:Int):List Ob:=CJ g 0 65535 ++ CJ f 0 65535 ++ CJ s 0 65535 ++ CJ (IntKind.i64.wrap y) (-32768) 32767 ++ CJ (IntKind.i64.wrap p) (-32768) 32767 ++ CJ (IntKind.i64.wrap r) (-32768) 32767
def bOb (a b c d:Wd) (s f g f':Int) (B:Nat->Int) (l r:Bool):List Ob:=ady (jl (vF a b c d).a) (jl (vF a b c d).b) (jl (vF a b c d).c) (oC s) f' g ++ [oIs (TQ a b c d) l,Ed a b c d (oC s) f' g true,cZ 3 .i64 f 65535 r,ajP B true,Ed a b c d s f g true]
def Ql (a b c d:Wd) (s f g f':Int) (B:Nat->Int) (l r:Bool) (fl:Int):Option (Bool × List CA × List Ob) :=
 some (true,[.v (stV a b c d (oC s) f' g),Ee a b c d (oC s) f' g fl,.v (.int .i64 0)],bOb a b c d s f g f' B l r)
noncomputable def Qm (a b c d:Wd) (s f g:Int) (B:Nat->Int) (br:List (Nat × Bool)):Option (Bool × List CA × List Ob):=AU (NG adw fsh br [bQ 20 7]) (Dl Qk) 3000 25 [bQ 20 7] [.agg (bQ 7 0),.vw 1000000 0 20] (xg a b c d s f g B)
theorem agy (a b c d:Wd) (s f g:Int) (B:Nat->Int):Qm a b c d s f g B (bbr 68 73 false false)=Ql a b c d s f g f B false false 1:=by kernel_rfl
theorem agz (a b c d:Wd) (s f g:Int) (B:Nat->Int):Qm a b c d s f g B (bbr 68 73 true false)=Ql a b c d s f g f B true false 9:=by kernel_rfl
theorem agB (a b c d:Wd) (s f g:Int) (B:Nat->Int):Qm a b c d s f g B (bbr 69 74 false true)=Ql a b c d s f g (IntKind.i64.wrap (f+1)) B false true 1:=by kernel_rfl
theorem agC (a b c d:Wd) (s f g:Int) (B:Nat->Int):Qm a b c d s f g B (bbr 69 74 true true)=Ql a b c d s f g (IntKind.i64.wrap (f+1)) B true true 9:=by kernel_rfl
