/- A part of the proof of the given row. Conditions: none. -/
import Derived.Test.YthfhnheigfoioaaGreatRows
import Derived.ProofKit
import Derived.ChangeOld
import Derived.MapKept
import Derived.ChangeMaps4
import Derived.Test.YthfhnheigfoioaaGreatGH
set_option linter.unusedVariables false
set_option linter.unusedSimpArgs false
set_option maxRecDepth 100000
section
namespace Sm
def Rn (x:Int):Prop:=-9223372036854775808<=x/\x < 9223372036854775808
structure RT (t:Thr):Prop where
 r:∀a∈t.AD,Rn a
 h:Rn t.h
 g:Rn t.g
 k:Rn t.k
 u:Rn t.u
 v:Rn t.v
 w:Rn t.word
 d:Rn t.dst
structure RC (x:Col):Prop where
 w:Rn x.word
 d:Rn x.dst
structure RS (S:Sim):Prop where
 w:∀x∈S.AC,Rn x
 t:∀t∈S.th,RT t
 c:RC S.col
 o:∀p∈S.AZ,∀o∈p,Rn o.v
theorem Rn.zero:Rn 0:=by unfold Rn;omega
theorem Cv {α:Type} {l:List α} {i:Int} {x:α} (h:idx l i = some x):x∈l:=by
 unfold idx at h;split at h
 .exact List.mem_of_getElem? h
 .cases h
theorem FY {α:Type} {l:List α} {i:Int} {x y:α} (h:y∈AT l i x):y∈l\/y = x:=fO h
theorem RT.thr0 {AD:List Int} {n m:Int} (h:∀a∈AD,Rn a):RT (thr0 AD n m):=⟨h,Rn.zero,Rn.zero,Rn.zero,Rn.zero,Rn.zero,Rn.zero,Rn.zero⟩
theorem Rn.room {t t' : List Rg} {o z d:Int} (h:BZ t o z = some (t',d)):Rn d:=by
 have j:BT t = true/\0<=o/\o<=3/\1<=z/\z<=16:=by
  unfold BZ at h;split at h
  .rename_i j;simp only[z_b,z_d] at j;exact⟨j.1.1.1.1,j.1.1.1.2,j.1.1.2,j.1.2,j.2⟩
  .cases h
 obtain⟨h0,y,A,D,G⟩:=j;rcases GB (Bj.1 h0) y A D G with H | ⟨N,K,he,x⟩
 .rw[H] at h;cases h
 rw[he] at h;cases h;have:=x.d0;have n1:=x.ok.n1;by_cases c:d / 16 < t'.length
 .unfold Rn;omega
 .have:=x.dk;rw[Df Z Z] at this;cases this
theorem Rn.shape {s:Shp}:Rn (AY s):=by
 unfold AY;split
 .rename_i h;simp only[BN,z_b,z_d] at h;unfold Rn;omega
 .unfold Rn;omega
section
variable {S S' : Sim} {i a v:Int}
theorem RS.rd (R:RS S) (h:S.read a = some (v,S')):Rn v/\RS S'/\S'.th = S.th/\S'.AZ = S.AZ/\S'.col = S.col:=by
 unfold Sim.read at h;split at h
 .rename_i j;cases h;exact⟨R.w _ (Cv j),⟨R.w,R.t,R.c,R.o⟩,rfl,rfl,rfl⟩
 .cases h
theorem RS.wt (R:RS S) (j:Rn v) (h:S.write a v = some S'):RS S':=by
 unfold Sim.write at h;split at h
 .cases h;exact⟨λx y=>(FY y).elim (R.w x) λe=>e▸j,R.t,R.c,R.o⟩
 .cases h
theorem RS.st (R:RS S) {t:Thr} (j:RT t):RS (S.setT i t):=⟨R.w,λx y=>(FY y).elim (R.t x) λe=>e▸j,R.c,R.o⟩
theorem RS.ev (R:RS S) {b:Int} (h:S.event i a b = some S'):RS S':=by
 unfold Sim.event at h;split at h
 .cases h
 split at h
 .rename_i j;split at h
  .cases h;exact⟨R.w,λx y=>(FY y).elim (R.t x) λe=>e▸RT.thr0 (R.t _ (Cv j)).r,R.c,R.o⟩
  .cases h
 .cases h
theorem RS.pu (R:RS S) (j:Rn a) (h:S.push i a = some S'):RS S':=by
 unfold Sim.push at h;split at h
 .cases h
 split at h
 .rename_i t y;have T:=R.t _ (Cv y);refine RS.ev (R.st ?_) h;exact⟨λx A=>(dg.1 A).elim (T.r x) λe=>by rw[dZ.1 e];exact j,T.h,T.g,T.k,T.u,T.v,T.w,T.d⟩
 .cases h
theorem RS.bk (R:RS S) (h:S.back i = some S'):RS S':=by
 unfold Sim.back at h;split at h
 .rename_i j;cases h;exact⟨R.w,λx y=>(FY y).elim (R.t x) λe=>e▸RT.thr0 (R.t _ (Cv j)).r,R.c,R.o⟩
 .cases h
theorem RS.tp (R:RS S) (h:S.top a v = some S'):RS S':=by
 unfold Sim.top at h;split at h
 .split at h
  .cases h;exact⟨R.w,R.t,R.c,R.o⟩
  .cases h
 .cases h
theorem RS.od (R:RS S) (h:S.oldV v = some S'):RS S':=by
 unfold Sim.oldV at h;split at h
 .cases h
 .cases h;split
  .exact⟨R.w,R.t,R.c,R.o⟩
  .exact R
theorem RS.op (R:RS S) {t:Thr} {o:Op} (h:S.opOf i t = some o):Rn o.v:=by
 unfold Sim.opOf at h;split at h
 .rename_i j;exact R.o _ (Cv j) _ (Cv h)
 .cases h
theorem RT.pc {t:Thr} (T:RT t) (n:Int):RT { t with pc:=n }:=⟨T.r,T.h,T.g,T.k,T.u,T.v,T.w,T.d⟩
theorem RT.hold {t:Thr} (T:RT t) (n:Int) (j:Rn a):RT (C7 t n a):=by
 unfold C7;split
 .exact⟨T.r,j,T.g,T.k,T.u,T.v,T.w,T.d⟩
 split
 .exact⟨T.r,T.h,j,T.k,T.u,T.v,T.w,T.d⟩
 split
 .exact⟨T.r,T.h,T.g,j,T.u,T.v,T.w,T.d⟩
 .exact⟨T.r,T.h,T.g,T.k,T.u,j,T.w,T.d⟩
theorem RS.begin_ (R:RS S) (h:S.begin_ i = some S'):RS S':=by
 unfold Sim.begin_ at h;obtain⟨t,H,h⟩:=dF.1 h;have T:=R.t _ (Cv H);obtain⟨o,Q,h⟩:=dF.1 h;split at h
 .exact R.ev h
 dsimp only at h;split at h
 .exact R.ev h
 split at h
 .exact RS.ev (R.st (by exact⟨λx K=>T.r x (eJ K),T.h,T.g,T.k,T.u,T.v,T.w,T.d⟩)) h
 split at h
 .obtain⟨b,hb,h⟩:=dF.1 h;exact R.pu (T.r _ (Cv hb)) h
 split at h
 .cases h;exact R.st (T.pc _)
 obtain⟨b,hb,h⟩:=dF.1 h;have j:RT { t with pc:=1,h:=b }:=⟨T.r,T.r _ (Cv hb),T.g,T.k,T.u,T.v,T.w,T.d⟩;obtain⟨N,A,h⟩:=dF.1 h;have y:RT N:=by
  split at A
  .obtain⟨c,hc,A⟩:=dF.1 A;cases A;exact⟨j.r,j.h,j.r _ (Cv hc),j.k,j.u,j.v,j.w,j.d⟩
  .cases A;exact j
 obtain⟨O,D,h⟩:=dF.1 h;have G:RT O:=by
  split at D
  .obtain⟨c,hc,D⟩:=dF.1 D;cases D;exact⟨y.r,y.h,y.g,y.r _ (Cv hc),y.u,y.v,y.w,y.d⟩
  .cases D;exact y
 cases h;exact R.st G
theorem RS.resolve (R:RS S) (h:S.resolve i = some S'):RS S':=by
 unfold Sim.resolve at h;obtain⟨t,y,h⟩:=dF.1 h;have T:=R.t _ (Cv y);split at h
 .cases h
 dsimp only at h;obtain⟨f,H,h⟩:=dF.1 h;split at h
 .cases h;exact R.st (T.pc _)
 obtain⟨⟨w,D⟩,x,h⟩:=dF.1 h;obtain⟨A,j,G,_⟩:=R.rd x;dsimp only at h;split at h
 .cases h;exact j.st ⟨T.r,T.h,T.g,T.k,T.u,T.v,T.w,T.d⟩
 .cases h;exact j.st (T.hold _ A)
theorem RS.copying (R:RS S) (h:S.copying i = some S'):RS S':=by
 unfold Sim.copying at h;obtain⟨t,K,h⟩:=dF.1 h;have T:=R.t _ (Cv K);split at h
 .obtain⟨b,hb,h⟩:=dF.1 h;obtain⟨⟨w,y⟩,x,h⟩:=dF.1 h;obtain⟨A,j,_⟩:=R.rd x;dsimp only at h;split at h
  .exact j.bk h
  .rename_i H;cases h;exact RS.st (by exact⟨j.w,j.t,j.c,j.o⟩) (by exact⟨T.r,T.h,T.g,T.k,T.u,T.v,T.w,Rn.room H⟩)
 split at h
 .obtain⟨b,hb,h⟩:=dF.1 h;obtain⟨⟨w,y⟩,x,h⟩:=dF.1 h;obtain⟨A,j,_⟩:=R.rd x;cases h;exact j.st ⟨T.r,T.h,T.g,T.k,T.u,T.v,A,T.d⟩
 split at h
 .obtain⟨b,hb,h⟩:=dF.1 h;obtain⟨y,x,h⟩:=dF.1 h;have j:=R.wt T.w x;obtain⟨n,Q,h⟩:=dF.1 h;cases h;exact j.st ⟨T.r,T.h,T.g,T.k,T.u,T.v,T.w,T.d⟩
 split at h
 .obtain⟨y,x,h⟩:=dF.1 h;have j:=R.wt T.d x;cases h;exact j.st (T.pc _)
 split at h
 .split at h
  .cases h
  obtain⟨⟨w,y⟩,x,h⟩:=dF.1 h;obtain⟨A,j,_⟩:=R.rd x;dsimp only at h;split at h
  .obtain⟨N,D,h⟩:=dF.1 h;obtain⟨O,G,h⟩:=dF.1 h;cases h;exact ((j.wt T.d D).tp G).st (T.hold _ T.d)
  .cases h;exact j.st (T.hold _ A)
 .cases h;exact R.st T
theorem RS.making (R:RS S) (h:S.making i = some S'):RS S':=by
 unfold Sim.making at h;obtain⟨t,N,h⟩:=dF.1 h;have T:=R.t _ (Cv N);obtain⟨o,Q,h⟩:=dF.1 h;split at h
 .dsimp only at h;split at h
  .split at h
   .exact R.ev h
   .exact R.bk h
  .rename_i K;cases h;exact RS.st (by exact⟨R.w,R.t,R.c,R.o⟩) (by exact⟨T.r,T.h,T.g,T.k,T.u,T.v,T.w,Rn.room K⟩)
 split at h
 .obtain⟨D,j,h⟩:=dF.1 h;cases h;exact (R.wt T.d j).st (T.pc _)
 obtain⟨⟨D,t1⟩,j,h⟩:=dF.1 h;have H:RS D/\RT t1:=by
  split at j
  .obtain⟨b,hb,j⟩:=dF.1 j;obtain⟨G,x,j⟩:=dF.1 j;cases j;exact⟨R.wt Rn.shape x,T⟩
  split at j
  .obtain⟨b,hb,j⟩:=dF.1 j;obtain⟨G,x,j⟩:=dF.1 j;obtain⟨n,O,j⟩:=dF.1 j;cases j;exact⟨R.wt Rn.zero x,⟨T.r,T.h,T.g,T.k,T.u,T.v,T.w,T.d⟩⟩
  .cases j;exact⟨R,T⟩
 obtain⟨A,y⟩:=H;dsimp only at h;split at h
 .obtain⟨G,x,h⟩:=dF.1 h;exact ((A.st (y.pc 33)).tp x).pu y.d h
 .cases h;exact A.st (y.pc 33)
theorem RS.load (R:RS S) (j:Rn v) (h:S.load i v = some S'):RS S':=by
 unfold Sim.load at h;obtain⟨t,x,h⟩:=dF.1 h;have T:=R.t _ (Cv x);split at h
 .exact R.pu T.v h
 obtain⟨f,y,h⟩:=dF.1 h;split at h
 .exact R.pu j h
 .cases h;exact R.st ⟨T.r,T.h,T.g,T.k,j,j,T.w,T.d⟩
theorem RS.swap (R:RS S) (j:Rn v) (h:S.swap i v = some S'):RS S':=by
 unfold Sim.swap at h;obtain⟨t,y,h⟩:=dF.1 h;have T:=R.t _ (Cv y);split at h
 .exact R.ev h
 dsimp only at h;obtain⟨f,D,h⟩:=dF.1 h;split at h
 .cases h;exact R.st ⟨T.r,T.h,T.g,T.k,j,j,T.w,T.d⟩
 split at h
 .exact R.ev h
 obtain⟨A,x,h⟩:=dF.1 h;cases h;exact (R.od x).st ⟨T.r,T.h,T.g,T.k,j,T.v,T.w,T.d⟩
theorem RS.shape (R:RS S) (h:S.shape i = some S'):RS S':=by
 unfold Sim.shape at h;obtain⟨t,y,h⟩:=dF.1 h;have T:=R.t _ (Cv y);split at h
 .cases h
 obtain⟨o,D,h⟩:=dF.1 h;split at h
 .exact R.ev h
 split at h
 .split at h
  .exact R.ev h
  .exact RS.ev (by exact⟨R.w,R.t,R.c,R.o⟩) h
 obtain⟨b,hb,h⟩:=dF.1 h;obtain⟨⟨w,A⟩,x,h⟩:=dF.1 h;obtain⟨G,j,_⟩:=R.rd x;dsimp only at h;split at h
 .exact j.ev h
 .cases h;exact j.st ⟨T.r,T.h,T.g,T.k,T.u,T.v,T.w,T.d⟩
theorem RS.field (R:RS S) (h:S.field i = some S'):RS S':=by
 unfold Sim.field at h;obtain⟨t,W,h⟩:=dF.1 h;have T:=R.t _ (Cv W);obtain⟨o,Q,h⟩:=dF.1 h;obtain⟨b1,H,h⟩:=dF.1 h;obtain⟨ref,K,h⟩:=dF.1 h;obtain⟨b3,N,h⟩:=dF.1 h;obtain⟨num,O,h⟩:=dF.1 h;split at h
 .obtain⟨⟨w,A⟩,j,h⟩:=dF.1 h;obtain⟨y,x,_⟩:=R.rd j;exact x.load y h
 split at h
 .obtain⟨⟨w,A⟩,j,h⟩:=dF.1 h;obtain⟨y,x,_⟩:=R.rd j;obtain⟨G,D,h⟩:=dF.1 h;cases h;exact (x.od D).st (T.pc _)
 split at h
 .obtain⟨A,j,h⟩:=dF.1 h;exact (R.wt T.g j).ev h
 split at h
 .obtain⟨A,j,h⟩:=dF.1 h;exact (R.wt (R.op Q) j).ev h
 split at h
 .obtain⟨⟨w,A⟩,j,h⟩:=dF.1 h;obtain⟨y,x,_⟩:=R.rd j;exact x.ev h
 split at h
 .obtain⟨⟨w,A⟩,j,h⟩:=dF.1 h;obtain⟨y,x,_⟩:=R.rd j;exact x.swap y h
 split at h
 .obtain⟨⟨w,A⟩,j,h⟩:=dF.1 h;obtain⟨y,x,_⟩:=R.rd j;dsimp only at h;split at h
  .obtain⟨G,D,h⟩:=dF.1 h;exact (x.wt T.k D).ev h
  .cases h;exact x.st (T.pc _)
 split at h
 .split at h
  .cases h;exact R.st (T.pc _)
  .obtain⟨⟨w,A⟩,j,h⟩:=dF.1 h;obtain⟨y,x,_⟩:=R.rd j;exact x.swap y h
 .cases h;exact R
theorem RS.tstep (R:RS S) (h:S.tstep i = some S'):RS S':=by
 unfold Sim.tstep at h;obtain⟨t,j,h⟩:=dF.1 h;split at h
 .exact R.resolve h
 split at h
 .exact R.shape h
 split at h
 .exact R.making h
 split at h
 .exact R.copying h
 .exact R.field h
theorem RS.tloop:∀(n:Nat) {S S' : Sim},RS S->Sim.tloop n S i = some S'->RS S'
 | 0,_,_,_,h=>by cases h
 | n + 1,S,S',R,h=>by
  unfold Sim.tloop at h;obtain⟨t,y,h⟩:=dF.1 h;split at h
  .cases h;exact R
  .obtain⟨x,j,h⟩:=dF.1 h;exact RS.tloop n (R.tstep j) h
theorem RS.thread {n:Nat} (R:RS S) (h:S.thread n i = some S'):RS S':=by
 unfold Sim.thread at h;obtain⟨t,x,h⟩:=dF.1 h;split at h
 .split at h
  .cases h;exact R
  .obtain⟨p,j,h⟩:=dF.1 h;split at h
   .exact R.begin_ h
   .cases h;exact R
 .exact RS.tloop n (by exact⟨R.w,R.t,R.c,R.o⟩) h
end
section
variable {S S' : Sim} {i a v:Int}
theorem RS.sc (R:RS S) {c:Col} (hc:RC c):RS (S.setC c):=⟨R.w,R.t,hc,R.o⟩
theorem RC.zero (a:Bool) (n:Int):RC (Dd a n):=⟨Rn.zero,Rn.zero⟩
theorem RS.mark (R:RS S) (h:S.mark = some S'):RS S':=by
 unfold Sim.mark at h;split at h
 .cases h
 dsimp only at h;split at h
 .split at h
  .cases h;exact⟨R.w,R.t,⟨R.c.w,R.c.d⟩,R.o⟩
  .cases h;exact⟨R.w,R.t,⟨R.c.w,R.c.d⟩,R.o⟩
 obtain⟨b,hb,h⟩:=dF.1 h;obtain⟨row,x,h⟩:=dF.1 h;obtain⟨c,hc,h⟩:=dF.1 h;split at h
 .obtain⟨p1,D,h⟩:=dF.1 h;obtain⟨⟨w,A⟩,y,h⟩:=dF.1 h;obtain⟨G,j,_⟩:=RS.rd (by exact⟨R.w,R.t,R.c,R.o⟩) y;dsimp only at h;obtain⟨H,hl,h⟩:=dF.1 h;cases h;exact⟨j.w,j.t,⟨R.c.w,R.c.d⟩,j.o⟩
 .cases h;exact⟨R.w,R.t,⟨R.c.w,R.c.d⟩,R.o⟩
theorem RS.look (R:RS S) (h:S.look = some S'):RS S':=by
 unfold Sim.look at h;split at h
 .cases h
 dsimp only at h;obtain⟨b,hb,h⟩:=dF.1 h;obtain⟨D,y,h⟩:=dF.1 h;obtain⟨⟨w,A⟩,x,h⟩:=dF.1 h;obtain⟨H,j,_⟩:=R.rd x;dsimp only at h;obtain⟨n,G,h⟩:=dF.1 h;cases h;exact⟨j.w,j.t,⟨R.c.w,R.c.d⟩,j.o⟩
theorem RS.walk (R:RS S) (h:S.walk = some S'):RS S':=by
 unfold Sim.walk at h;dsimp only at h;obtain⟨⟨r,p⟩,hb,h⟩:=dF.1 h;dsimp only at h;split at h
 .cases h;exact⟨R.w,R.t,⟨R.c.w,R.c.d⟩,R.o⟩
 obtain⟨q,A,h⟩:=dF.1 h;obtain⟨⟨w,y⟩,x,h⟩:=dF.1 h;obtain⟨D,j,_⟩:=R.rd x;dsimp only at h;cases h;refine j.sc ?_;split
 .exact⟨R.c.w,R.c.d⟩
 .exact⟨R.c.w,R.c.d⟩
theorem RS.carry (R:RS S) (h:S.carry = some S'):RS S':=by
 unfold Sim.carry at h;dsimp only at h;split at h
 .obtain⟨b,hb,h⟩:=dF.1 h;obtain⟨⟨w,A⟩,x,h⟩:=dF.1 h;obtain⟨D,j,_⟩:=R.rd x;dsimp only at h;split at h
  .cases h;exact⟨j.w,j.t,j.c,j.o⟩
  .rename_i N;cases h;exact⟨j.w,j.t,⟨R.c.w,Rn.room N⟩,j.o⟩
 split at h
 .obtain⟨b,hb,h⟩:=dF.1 h;obtain⟨⟨w,A⟩,x,h⟩:=dF.1 h;obtain⟨D,j,_⟩:=R.rd x;cases h;exact j.sc ⟨D,R.c.d⟩
 split at h
 .obtain⟨b,hb,h⟩:=dF.1 h;obtain⟨A,x,h⟩:=dF.1 h;have j:=R.wt R.c.w x;obtain⟨n,Q,h⟩:=dF.1 h;cases h;exact j.sc ⟨R.c.w,R.c.d⟩
 split at h
 .obtain⟨A,x,h⟩:=dF.1 h;have j:=R.wt R.c.d x;cases h;exact j.sc ⟨R.c.w,R.c.d⟩
 split at h
 .obtain⟨⟨w,A⟩,x,h⟩:=dF.1 h;obtain⟨D,j,_⟩:=R.rd x;dsimp only at h;obtain⟨H,y,h⟩:=dF.1 h;have G:RS H:=by
   split at y
   .obtain⟨O,K,y⟩:=dF.1 y;exact (j.wt R.c.d K).tp y
   .cases y;exact j
  cases h;exact G.sc ⟨R.c.w,R.c.d⟩
 .cases h;exact R
theorem RC.then_ {x y:Col} (j:RC x) (h:HE x = some y):RC y:=by
 unfold HE at h;obtain⟨n,A,h⟩:=dF.1 h;cases h;exact⟨j.w,j.d⟩
theorem RS.renew (R:RS S) (h:S.renew = some S'):RS S':=by
 unfold Sim.renew at h;dsimp only at h;split at h
 .obtain⟨⟨r,p⟩,hb,h⟩:=dF.1 h;dsimp only at h;split at h
  .cases h;exact⟨R.w,R.t,⟨R.c.w,R.c.d⟩,R.o⟩
  obtain⟨q,hq,h⟩:=dF.1 h;obtain⟨⟨w,S1⟩,h1,h⟩:=dF.1 h;obtain⟨hw,R1,_⟩:=R.rd h1;dsimp only at h;obtain⟨q2,hq2,h⟩:=dF.1 h;obtain⟨row,hrow,h⟩:=dF.1 h;obtain⟨go,hgo,h⟩:=dF.1 h;cases h;refine R1.sc ?_;split
  .exact⟨R.c.w,R.c.d⟩
  .exact⟨R.c.w,R.c.d⟩
 split at h
 .obtain⟨b,hb,h⟩:=dF.1 h;obtain⟨b2,hb2,h⟩:=dF.1 h;obtain⟨⟨w,S1⟩,h1,h⟩:=dF.1 h;obtain⟨hw,R1,_⟩:=R.rd h1;dsimp only at h;obtain⟨f,hf,h⟩:=dF.1 h;split at h
  .cases h;exact R1.sc ⟨R.c.w,R.c.d⟩
  .obtain⟨y,hy,h⟩:=dF.1 h;cases h;exact R1.sc (RC.then_ (by exact⟨R.c.w,R.c.d⟩) hy)
 split at h
 .obtain⟨⟨w,S1⟩,h1,h⟩:=dF.1 h;obtain⟨hw,R1,_⟩:=R.rd h1;dsimp only at h;split at h
  .obtain⟨y,hy,h⟩:=dF.1 h;cases h;exact R1.sc (RC.then_ (by exact⟨hw,R.c.d⟩) hy)
  .cases h;exact R1.sc ⟨hw,R.c.d⟩
 split at h
 .obtain⟨b,hb,h⟩:=dF.1 h;obtain⟨b2,hb2,h⟩:=dF.1 h;obtain⟨⟨w,S1⟩,h1,h⟩:=dF.1 h;obtain⟨hw,R1,_⟩:=R.rd h1;dsimp only at h;obtain⟨S2,h2,h⟩:=dF.1 h;have R2:RS S2:=by
   split at h2
   .exact R1.wt R.c.w h2
   .cases h2;exact R1
  obtain⟨y,hy,h⟩:=dF.1 h;cases h;exact R2.sc (RC.then_ R.c hy)
 .cases h;exact R
theorem RS.work (R:RS S) (h:S.work = some S'):RS S':=by
 unfold Sim.work at h;split at h
 .exact R.mark h
 split at h
 .exact R.look h
 split at h
 .exact R.walk h
 split at h
 .exact R.carry h
 .exact R.renew h
theorem RS.cloop:∀(n:Nat) {S S' : Sim},RS S->Sim.cloop n S = some S'->RS S'
 | 0,_,_,_,h=>by cases h
 | n + 1,S,S',R,h=>by
  unfold Sim.cloop at h;split at h
  .obtain⟨x,j,h⟩:=dF.1 h;exact RS.cloop n (R.work j) h
  .cases h;exact R
theorem RS.idle (R:RS S) (h:S.idle = some S'):RS S':=by
 unfold Sim.idle at h;obtain⟨n,j,h⟩:=dF.1 h;cases h;exact⟨R.w,R.t,RC.zero _ _,R.o⟩
theorem RS.drain:∀(n:Nat) {S S' : Sim},RS S->Sim.drain n S = some S'->RS S'
 | 0,_,_,_,h=>by cases h
 | n + 1,S,S',R,h=>by
  unfold Sim.drain at h;split at h
  .cases h
  split at h
  .dsimp only at h;split at h
   .obtain⟨x,j,h⟩:=dF.1 h;exact RS.drain n (R.look j) h
   .obtain⟨x,j,h⟩:=dF.1 h;exact RS.drain n (R.mark j) h
  .cases h;exact R
theorem RS.choose {n:Nat} (R:RS S) (h:S.choose n = some S'):RS S':=by
 unfold Sim.choose at h;obtain⟨y,x,h⟩:=dF.1 h;have j:=RS.drain n R x;dsimp only at h;obtain⟨t,A,h⟩:=dF.1 h;split at h
 .exact RS.idle (by exact⟨j.w,j.t,j.c,j.o⟩) h
 .cases h;exact⟨j.w,j.t,⟨Rn.zero,Rn.zero⟩,j.o⟩
theorem RS.rootsF (R:RS S):∀{l y : List Int},(∀a∈l,Rn a)->S.rootsF l = some y->∀a∈y,Rn a
 | [],y,_,h=>by cases h;simp
 | a :: r,y,hl,h=>by
  unfold Sim.rootsF at h;obtain⟨f,G,h⟩:=dF.1 h;obtain⟨b,hb,h⟩:=dF.1 h;obtain⟨H,A,h⟩:=dF.1 h;cases h;have D:=RS.rootsF R (λx j=>hl x (by simp[j])) A;intro x j;rcases dX.1 j with rfl | j
  .split at hb
   .exact R.w _ (Cv hb)
   .cases hb;exact hl _ V
  .exact D x j
theorem RS.thsF (R:RS S):∀{l y : List Thr},(∀t∈l,RT t)->S.thsF l = some y->∀t∈y,RT t
 | [],y,_,h=>by cases h;simp
 | t :: r,y,hl,h=>by
  unfold Sim.thsF at h;obtain⟨b,hb,h⟩:=dF.1 h;obtain⟨G,A,h⟩:=dF.1 h;cases h;have D:=RS.thsF R (λx j=>hl x (by simp[j])) A;have T:=hl t V;intro x j;rcases dX.1 j with rfl | j
  .exact⟨R.rootsF T.r hb,T.h,T.g,T.k,T.u,T.v,T.w,T.d⟩
  .exact D x j
theorem RS.finish (R:RS S) (h:S.finish = some S'):RS S':=by
 unfold Sim.finish at h;obtain⟨th,j,h⟩:=dF.1 h;exact RS.idle (by exact⟨R.w,R.thsF R.t j,R.c,R.o⟩) h
theorem RS.update (R:RS S) (h:S.update = some S'):RS S':=by
 unfold Sim.update at h;obtain⟨_,j,h⟩:=dF.1 h;cases h;exact⟨R.w,R.t,⟨Rn.zero,Rn.zero⟩,R.o⟩
end
def Rth (l:List AQ):Prop:=∀x∈l,Rn x.at_/\∀n∈x.nums,Rn n
theorem Rn.at_ {w:List Int} {a:Int} (A:∀x∈w,Rn x) (h:(As w a).2 = true):Rn (As w a).1.at_/\∀n∈(As w a).1.nums,Rn n:=by
 unfold As at h ⊢;split
 .rename_i j;rw[if_pos j] at h;dsimp only at h ⊢;split
  .refine⟨?_,λn y=>A n (fS (eJ y))⟩;unfold fits BM at j;simp only[z_b,z_d] at j;show Rn a;unfold Rn;omega
  .exact⟨Rn.zero,by simp[Eg]⟩
 .exact⟨Rn.zero,by simp[Eg]⟩
theorem Rth.from_ {w:List Int} (y:∀x∈w,Rn x):∀(n:Nat) {a t:Int} {l:List AQ},Au w n a t = some l->Rth l
 | 0,a,t,l,h=>by
  unfold Au at h;split at h
  .cases h
  .cases h;intro x j;cases j
 | n + 1,a,t,l,h=>by
  unfold Au at h;split at h
  .dsimp only at h;split at h
   .rename_i hc;split at h
    .rename_i A;cases h;intro x j;rcases dX.1 j with rfl | j
     .exact Rn.at_ y (by simp only[z_b] at hc;exact hc.1)
     .exact Rth.from_ y n A x j
    .cases h
   .cases h
  .cases h;intro x j;cases j
theorem Rth.all {w:List Int} (A:∀x∈w,Rn x):∀(t:List Rg) (r:Nat) {l:List AQ},Bc w r t = some l->Rth l
 | [],r,l,h=>by cases h;intro x H;cases H
 | x :: t,r,l,h=>by
  unfold Bc at h;split at h
  .cases h
  .rename_i a j;split at h
   .cases h
   .rename_i b hb;cases h;have D:Rth a:=by
     unfold BU at j;split at j
     .exact Rth.from_ A _ j
     .cases j
    have G:=Rth.all A t (r + 1) hb;intro y K;exact (dg.1 K).elim (D y) (G y)
def Rw_ (w:List Int):Prop:=∀x∈w,Rn x
def Rtt (t:List Rg):Prop:=∀x∈t,Rn x.top
theorem Rw_.wr {w w' : List Int} {a v:Int} (R:Rw_ w) (j:Rn v) (h:Sm.wr w a v = some w'):Rw_ w':=by
 unfold Sm.wr at h;split at h
 .cases h;exact λx y=>(FY y).elim (R x) λe=>e▸j
 .cases h
theorem Rw_.wrs:∀(l:List Int) {w j : List Int} {a:Int},Rw_ w->(∀x∈l,Rn x)->Sm.wrs w a l = some j->Rw_ j
 | [],w,j,a,R,_,h=>by cases h;exact R
 | v :: l,w,j,a,R,hl,h=>by
  unfold Sm.wrs at h;obtain⟨D,y,h⟩:=dF.1 h;exact Rw_.wrs l (R.wr (hl v V) y) (λx A=>hl x (by simp[A])) h
theorem QG {l:List AQ} {a:Int} {x:AQ} (h:Ax l a = some x):x∈l/\x.at_ = a:=by
 unfold Ax at h;exact⟨gV h,by simpa using List.find?_some h⟩
theorem Rw_.stay (s:Ah) (H:Rtt s.AA):∀(l:List AQ) {w G : List Int} {t D : List Rg},Rth l->Rw_ w->Rtt t->Sm.stay s l w t = some (G,D)->Rw_ G/\Rtt D
 | [],w,G,t,D,_,R,T,h=>by cases h;exact⟨R,T⟩
 | x :: l,w,G,t,D,hl,R,T,h=>by
  unfold Sm.stay at h;dsimp only at h;have A:Rth l:=λy j=>hl y (by simp[j])
  obtain⟨W,q2⟩:=hl x V;split at h
  .obtain⟨w1,K,h⟩:=dF.1 h;obtain⟨w2,N,h⟩:=dF.1 h;obtain⟨w3,O,h⟩:=dF.1 h;obtain⟨row,Q,h⟩:=dF.1 h;obtain⟨_,_,h⟩:=dF.1 h;refine Rw_.stay s H l A (Rw_.wrs _ ((R.wr W K).wr Rn.shape N) q2 O) (λy j=>?_) h;rcases FY j with j | j
   .exact T y j
   .rw[j];exact H row (Cv Q)
  .exact Rw_.stay s H l A R T h
theorem YK {a b c:Int} (h:Cg a b = some c):Rn c:=by
 unfold Cg at h;split at h
 .cases h;rename_i q;exact q
 .cases h
theorem Rw_.slide (AJ:List Int) {l:List AQ} (hl:Rth l):∀(AI:List Int) {t H : List Rg} {r:Int} {G j : List Int},Rtt t->(∀d∈G,Rn d)->Sm.slide AJ l AI t r G = some (H,j)->∀d∈j,Rn d
 | [],t,H,r,G,j,T,ht,h=>by cases h;exact ht
 | a :: AI,t,H,r,G,j,T,ht,h=>by
  unfold Sm.slide at h;obtain⟨x,O,h⟩:=dF.1 h;obtain⟨K,he⟩:=QG O;dsimp only at h;split at h
  .refine Rw_.slide AJ hl AI T (λd hd=>?_) h;rcases dg.1 hd with hd | hd
   .exact ht d hd
   .rw[dZ.1 hd,<- he];exact (hl x K).1
  obtain⟨R,N,h⟩:=dF.1 h;obtain⟨row,A,h⟩:=dF.1 h;obtain⟨top,D,h⟩:=dF.1 h;refine Rw_.slide AJ hl AI (λy Q=>(FY Q).elim (T y) λe=>e▸YK D) (λd hd=>?_) h;rcases dg.1 hd with hd | hd
  .exact ht d hd
  .rw[dZ.1 hd];exact T row (Cv A)
theorem Rw_.refs {l:List AQ} {AI to:List Int} (y:∀d∈to,Rn d):∀(r:List Int) {w x : List Int} {a:Int},Rw_ w->F3 l AI to w a r = some x->Rw_ x
 | [],w,x,a,R,h=>by cases h;exact R
 | v :: r,w,x,a,R,h=>by
  unfold F3 at h;obtain⟨n,A,h⟩:=dF.1 h;dsimp only at h;obtain⟨D,j,h⟩:=dF.1 h;refine Rw_.refs y r ?_ h;split at j
  .obtain⟨d,hd,j⟩:=dF.1 j;exact R.wr (y d (Cv hd)) j
  .cases j;exact R
theorem Rw_.move {l:List AQ} (hl:Rth l) {AI to:List Int} (D:∀d∈to,Rn d):∀(A ld:List Int) {w j : List Int},Rw_ w->(∀d∈ld,Rn d)->El l AI to A ld w = some j->Rw_ j
 | [],ld,w,j,R,_,h=>by unfold El at h;cases h;exact R
 | a :: A,[],w,j,R,_,h=>by unfold El at h;cases h;exact R
 | a :: A,d :: ld,w,j,R,hd,h=>by
  unfold El at h;obtain⟨x,Q,h⟩:=dF.1 h;obtain⟨W,H,h⟩:=dF.1 h;obtain⟨w2,K,h⟩:=dF.1 h;obtain⟨w3,N,h⟩:=dF.1 h;obtain⟨w4,O,h⟩:=dF.1 h;have G:=(R.wr (hd d V) H).wr Rn.shape K;exact Rw_.move hl D A ld (Rw_.wrs _ (Rw_.refs D _ G N) (hl x (QG Q).1).2 O) (λy T=>hd y (by simp[T])) h
theorem Rw_.AD {l:List AQ} {AI to:List Int} (A:∀d∈to,Rn d):∀(r:List Int) {j : List Int},DD l AI to r = some j->∀a∈j,Rn a
 | [],j,h=>by cases h;simp
 | a :: r,j,h=>by
  unfold DD at h;obtain⟨n,H,h⟩:=dF.1 h;dsimp only at h;obtain⟨b,hb,h⟩:=dF.1 h;obtain⟨K,D,h⟩:=dF.1 h;cases h;have G:=Rw_.AD A r D;intro x y;rcases dX.1 y with rfl | y
  .split at hb
   .cases hb;exact Rn.zero
   .exact A _ (Cv hb)
  .exact G x y
theorem Rw_.ths {l:List AQ} {AI to:List Int} (D:∀d∈to,Rn d):∀(r:List Th) {j : List Th},Da l AI to r = some j->∀t∈j,∀a∈t.AD,Rn a
 | [],j,h=>by cases h;simp
 | t :: r,j,h=>by
  unfold Da at h;obtain⟨N,y,h⟩:=dF.1 h;obtain⟨K,G,h⟩:=dF.1 h;cases h;have H:=Rw_.ths D r G;intro x A;rcases dX.1 A with rfl | A
  .exact Rw_.AD D _ y
  .exact H x A
theorem Rtt.new (n:Int):Rtt (AV n):=by
 unfold AV;split
 .intro x j;cases j
 .intro x j;rcases dX.1 j with rfl | j
  .exact Rn.zero
  .obtain⟨k,y,rfl⟩:=dc.1 j;show Rn (AK _);unfold AK;split
   .exact Rn.zero
   .unfold Rn;omega
theorem full_rn {s A : Ah} (T:Rw_ s.AC) (R:Rtt s.AA) (h:Fi s = some A):Rw_ A.AC/\∀t∈A.AB,∀a∈t.AD,Rn a:=by
 unfold Fi at h;dsimp only at h;obtain⟨lv,W,h⟩:=dF.1 h;obtain⟨⟨w1,t1⟩,H,h⟩:=dF.1 h;obtain⟨⟨t2,to⟩,K,h⟩:=dF.1 h;obtain⟨w2,N,h⟩:=dF.1 h;obtain⟨th,O,h⟩:=dF.1 h;obtain⟨fu,h6,h⟩:=dF.1 h;cases h;have hl:Rth ((BJ s).getD []):=by
  cases Q:BJ s with
  | none=>intro x y;cases y
  | some l=>exact Rth.all T _ _ Q
 obtain⟨D,G⟩:=Rw_.stay s R _ hl (λx y=>by rw[(eR.1 y).2];exact Rn.zero) (Rtt.new _) H;have j:=Rw_.slide s.AJ hl _ G (λd hd=>by cases hd) K;exact⟨Rw_.move hl j _ _ D j N,Rw_.ths j _ O⟩
section
variable {S S' : Sim} {i a v:Int}
theorem RS.pause {n:Nat} (R:RS S) (T:Rtt S.AA) (h:S.pause n = some S'):RS S':=by
 unfold Sim.pause at h;split at h
 .cases h
 split at h
 .obtain⟨s,D,h⟩:=dF.1 h;cases h;obtain⟨y,A⟩:=full_rn (s:=S.view) R.w T D;refine⟨y,λt G=>?_,RC.zero _ _,R.o⟩;obtain⟨H,x,rfl⟩:=dc.1 G;exact RT.thr0 (A H x)
 dsimp only at h;have j:RS { S with stop:=false }:=⟨R.w,R.t,R.c,R.o⟩;split at h
 .cases h;exact⟨R.w,R.t,⟨Rn.zero,Rn.zero⟩,R.o⟩
 split at h
 .exact j.choose h
 split at h
 .exact j.update h
 .exact j.finish h
theorem RS.pick (R:RS S) (T:Rtt S.AA) {p:Int} (h:S.pick p = some S'):RS S':=by
 unfold Sim.pick at h;split at h
 .exact R.thread h
 split at h
 .unfold Sim.collector at h;split at h
  .split at h
   .exact R.pause T h
   .cases h;exact R
  split at h
  .split at h
   .cases h;exact⟨R.w,R.t,⟨R.c.w,R.c.d⟩,R.o⟩
   .cases h;exact R
  .exact RS.cloop _ (by exact⟨R.w,R.t,R.c,R.o⟩) h
 split at h
 .cases h;exact⟨R.w,R.t,⟨R.c.w,R.c.d⟩,R.o⟩
 .cases h;exact R
theorem ZE {t:List Rg} (T:TOk t):Rtt t:=by
 intro x A;obtain⟨k,y,rfl⟩:=dm A;have n1:=T.n1;have e:rv t k = t[k]:=GV y;by_cases h0:k = 0
 .subst h0;have j:=T.e;rw[show (0:Int) = ((0:Nat):Int) from rfl,e] at j;rw[j];exact Rn.zero
 .have r:=T.row k Z Z;rw[e] at r;have t0:=r.t0;have t1:=r.t1;unfold Rn;omega
theorem Qe {P:List (List Op)}:∀(y:List Int) (c:Nat) (S S' : Sim) (g:Gh),c + 5 * y.length < 900000->IG P S g->Bd c S->RS S->Sim.picks y S = some S'->RS S'
 | [],c,S,S',g,_,_,_,R,h=>by cases h;exact R
 | p :: r,c,S,S',g,hc,I,B,R,h=>by
  simp only[dR] at hc;obtain⟨H,G,j,D,A⟩:=PW (p:=p) Z I B;unfold Sim.picks at h;obtain⟨K,x,h⟩:=dF.1 h;rw[j] at x;cases x;exact Qe r (c + 5) _ S' G Z D A (R.pick (ZE I.sh.g.ok) j) h
theorem Wr {c:Cfg} {AZ:List (List Op)} (D:∀p∈AZ,∀o∈p,Rn o.v):RS (start c AZ):=by
 refine⟨?_,λt G=>?_,RC.zero _ _,D⟩
 .show ∀x∈(CU (List.replicate (c.AH.toNat * 16) 0) 16 Bp).1,Rn x;unfold CU;split
  .intro x j;unfold put at j;have y : AY Bp = 66:=δ
   rw[y] at j;simp only[dg,dX,dZ,List.not_mem_nil,or_false] at j;rcases j with (j | (rfl | rfl) | j) | j
   .rw[(eR.1 (eJ j)).2];exact Rn.zero
   .unfold Rn;omega
   .unfold Rn;omega
   .rw[(eR.1 j).2];exact Rn.zero
   .rw[(eR.1 (fS j)).2];exact Rn.zero
  .intro x j;cases j
 .rw[(eR.1 G).2];exact RT.thr0 (λa A=>by rw[dZ.1 A];unfold Rn;omega)
end
end Sm
end
section
namespace Go.Lf
open Go Sm
def sel (l:List Int) (x:Int):Int:=l.getD x.toNat 0
theorem BG (l:List Int) {x:Int} (h0:0<=x) (j:x < l.length):(l.map I)[0 + x.toNat * 1]? = some (I (sel l x)):=by
 have:x.toNat < l.length:=Z
 simp[sel,this]
theorem XD {l:List Int} {x:Int} (h0:0<=x) (j:x < l.length):sel l x∈l:=by
 have:x.toNat < l.length:=Z
 simp[sel,this]
theorem jsb {R:RM} {D:Chs} {v:Value} {w n:Nat} {u:Int} {k:Value->M} (h:Bsl R v n) (h0:0<=u) (N:u<=n) (H:∀A,Bsl R A u.toNat->J R D (k A)):J R D (SL w v none (some (I u)) k):=by
 obtain⟨a,j,rfl,Q,x⟩:=h;intro G K;refine⟨⟨h0,Z⟩,H _ ⟨a,j,rfl,Z,?_⟩ G K⟩;rcases x with y | ⟨b,o,x,y⟩
 .exact .inl Z
 .exact .inr ⟨b,o,x,λi O=>y i Z⟩
theorem Bsl.sl {R:RM} {v:Value} {n:Nat} (h:Bsl R v n):∃a c,v = .slice a n c:=by obtain⟨a,c,j,_⟩:=h;exact⟨a,c,j⟩
theorem cW {R:RM} {D:Chs} {v:Value} {w n:Nat} {j:List Value} {u:Int} {k:Value->M} (h:Fz R v w n j) (h0:0<=u) (T:u<=n) (H:∀K,Fz R K w u.toNat (j.take (u.toNat * w))->J R D (k K)):J R D (SL w v none (some (I u)) k):=by
 rcases h with ⟨rfl,G,O⟩ | ⟨b,o,x,t,N,rfl,G,O,Q,W⟩
 .intro y A;refine⟨⟨h0,Z⟩,H _ ?_ y A⟩;have:u = 0:=Z
  subst this;exact .inl ⟨rfl,rfl,V⟩
 .intro y A;refine⟨⟨h0,Z⟩,H _ ?_ y A⟩;have hm:u.toNat * w<=n * w:=ff w Z;exact .inr ⟨b,o,x,t,N,rfl,G,Z,by rw[<- Q,gS];congr 1;omega,Z⟩
def Dr (f:Nat) (args:List Value) (R:RM) (rb:Nat) (v:Value) (m c:Int) (q:Value->RM->Prop):Prop:=
 Fn P f args R [(rb,rdO v m)] (λx R' A=>R.le R'/\q x R'/\∃m',m<=m'/\m'<=m + c/\A = [(rb,rdO v m')])
theorem jdr {R:RM} {D E:Chs} {f A:Nat} {j:List Value} {v:Value} {m c:Int} {q:Value->RM->Prop} {k:Value->M} (Q:Dr f j R A v m c q) [t:Tk D A (rdO v m) E] (H:∀x y m',R.le y->q x y->m<=m'->m'<=m + c->J y ((A,rdO v m') :: E) (k x)) :
  J R D (CA P f j k):=by
 refine jc Q ?_;rintro x y _ _ ⟨G,K,m',N,O,rfl⟩;exact H x y m' G K N O
theorem FZ {R j : RM} {D E F:Chs} {G:Nat} {v x:Value} {m c:Int} {q:Value->RM->Prop} (m' : Int) [t:Tk D G (rdO v m') E] [s:Sf E F] (y:R.le j) (H:q x j) (K:m<=m') (N:m'<=m + c) :
  J j D (Fj R F (λx j A=>R.le j/\q x j/\∃m',m<=m'/\m'<=m + c/\A = [(G,rdO v m')]) x):=by
 intro h O;exact Ao y ⟨y,H,m',K,N,rfl⟩ h (O.perm t.p)
theorem jk1 {R:RM} {D G F:Chs} {o:Obj} {m:M} (b:Nat) [t:Tk D b o G] [s:Sf G F] (H:J R ((b,o) :: F) m):J R D m:=by
 intro h x;obtain⟨X,j⟩:=s.p;subst j;exact H h (((x.perm t.p).perm dw.symm).drop)
theorem jk2 {R:RM} {D E G F:Chs} {o o' : Obj} {m:M} (b c:Nat) [t:Tk D b o E] [u:Tk E c o' G] [s:Sf G F] (H:J R ((b,o) :: (c,o') :: F) m):J R D m:=by
 intro h y;have j:=(y.perm t.p).perm (u.p.cons _);obtain⟨X,x⟩:=s.p;subst x;have:=eu (l₁:=[(b,o),(c,o')]) (l₂:=X);have:=this.append_right F;exact H h (j.perm (by simpa using this)).drop
theorem jk3 {R:RM} {D E G x F:Chs} {o o' j:Obj} {m:M} (b c d:Nat) [t:Tk D b o E] [u:Tk E c o' G] [w:Tk G d j x] [s:Sf x F] (H:J R ((b,o) :: (c,o') :: (d,j) :: F) m):J R D m:=by
 intro h K;have y:=((K.perm t.p).perm (u.p.cons _)).perm ((w.p.cons _).cons _);obtain⟨X,A⟩:=s.p;subst A;have:=eu (l₁:=[(b,o),(c,o'),(d,j)]) (l₂:=X);have:=this.append_right F;exact H h (y.perm (by simpa using this)).drop
theorem WV {R:RM} {v:Value} {n:Nat} (h:Bsl R v n) :
  Fn P MC [v] R [] (λx G A=>G = R/\∃W y,x = Pt W/\A = [(W,rdO y 0)]/\Byt R y):=by
 refine TS λF=>?_
 refine z_1 ?_;obtain⟨a,O,hv⟩:=h.sl;refine Ac (λvs G D'=>G = R/\D' = [] ++ F/\∃y,Byt R y/\vs = [y]) (λK T=>?_) ?_
 .refine Bf h.sl (jgr (jif (λD=>?_) (λD=>?_)))
  .have D:=z_f D;refine jsb h Z Z λy j=>(T _ _ _ ⟨rfl,rfl,y,?_,rfl⟩)
   obtain⟨H,N,e⟩:=j.sl;exact⟨H,_,N,e,j,δ⟩
  .have D:=z_g D;exact T _ _ _ ⟨rfl,rfl,v,⟨a,n,O,hv,h,Z⟩,rfl⟩
 rintro e R1 D1 ⟨hR,hD,y,j,he⟩;subst hR;refine z_W ?_;obtain⟨H,n',N,Q,-⟩:=id j;subst Q;refine jbd (cs:=[.slice H n' N,I 0]) rfl rfl (ja λb=>(Ao (RM.le.refl _) ⟨rfl,b,_,rfl,rfl,j⟩))
section draws
variable {R:RM} {rb:Nat} {v:Value} {m:Int}
set_option maxHeartbeats 4000000 in
theorem Lh (hb:Byt R v) (hm:0<=m/\m < 500000000):Dr J7 [Pt rb] R rb v m 3 (λx y=>y = R/\∃sh:Shp,x = eSh sh):=by
 refine Pd λF=>?_
 refine z_1 ?_;refine ja λb=>(jpk hb ⟨Z,Z⟩ λx1 _ _=>jeq (jif (λ_=>?_) (λ_=>?_)))
 .refine Ac (λvs y O=>y = R/\(∃r n m',m<=m'/\m'<=m + 3/\O = (b,C 68 [I r,I n]) :: (rb,rdO v m') :: F)/\vs = [Pt b]) (λK H=>?_) ?_;rotate_left
  .rintro e R1 D1 ⟨hR,⟨r,n,m',A,D,hD⟩,he⟩;subst hR;refine z_W ?_;clear hD;refine jla (by exact z_n 2) rfl (FZ m' (RM.le.refl _) ⟨rfl,⟨r,n⟩,rfl⟩ A D)
  have j:∀(r n m' : Int),m<=m'->m'<=m + 3->J R ((b,C 68 [I r,I n]) :: (rb,rdO v m') :: F) (K [Pt b]):=λr n m' A D=>H _ _ _ ⟨rfl,⟨r,n,m',A,D,rfl⟩,rfl⟩
  clear H;refine FG ?_ ?_
  .refine jbs rfl rfl λb6=>(FG ?_ ?_)
   .refine jpk hb ⟨Z,Z⟩ λx7 _ _=>(jia Z Z (jl (BG [4,5,-1,0] Z (by show _ < (4:Int);omega)) (FG ?_ ?_)))
    .refine jbs rfl rfl λQ=>(Ak (jl (BG [4,5,-1,0] Z (by show _ < (4:Int);omega)) jev) (jpk hb ⟨Z,Z⟩ λb3 _ _=>(jia Z Z (jl (BG [4,5,-1,0] Z (by show _ < (4:Int);omega)) (jbd rfl rfl (Ak (jl (BG [4,5,-1,0] Z (by show _ < (4:Int);omega)) jev) (js rfl rfl (by exact z_n 2) rfl ?_)))))))
     refine jk2 (F:=F) b rb (j _ _ _ Z Z)
    refine E8 (jpk hb ⟨Z,Z⟩ λb4 _ _=>(Ak (jl (BG [4,5,-1,0] Z (by show _ < (4:Int);omega)) jev) (jbs rfl rfl λT=>(jia Z Z (jl (BG [4,5,-1,0] Z (by show _ < (4:Int);omega)) (jbd rfl rfl (Ak (jl (BG [4,5,-1,0] Z (by show _ < (4:Int);omega)) jev) ?_)))))));refine js rfl rfl (by exact z_n 2) rfl (jk2 (F:=F) b rb (j _ _ _ Z Z))
   refine E8 (jbs rfl rfl λW=>(jpk hb ⟨Z,Z⟩ λb5 _ _=>(jia Z Z (jl (BG [4,5,-1,0] Z (by show _ < (4:Int);omega)) (jpk hb ⟨Z,Z⟩ λb7 _ _=>(jia Z Z (jl (BG [4,5,-1,0] Z (by show _ < (4:Int);omega)) ?_)))))));refine jbd rfl rfl (Ak (jl (BG [4,5,-1,0] Z (by show _ < (4:Int);omega)) jev) (js rfl rfl (by exact z_n 2) rfl (jk2 (F:=F) b rb (j _ _ _ Z Z))))
  refine FG ?_ ?_
  .refine jpk hb ⟨Z,Z⟩ λb8 _ _=>(FG ?_ ?_)
   .refine jbs rfl rfl λa0=>(jia Z Z (jl (BG [4,5,-1,0] Z (by show _ < (4:Int);omega)) (FG ?_ ?_)))
    .refine jbs rfl rfl λa1=>(Ak (jl (BG [4,5,-1,0] Z (by show _ < (4:Int);omega)) jev) (jpk hb ⟨Z,Z⟩ λb9 _ _=>(jia Z Z (jl (BG [4,5,-1,0] Z (by show _ < (4:Int);omega)) (jbd rfl rfl (Ak (jl (BG [4,5,-1,0] Z (by show _ < (4:Int);omega)) jev) (js rfl rfl (by exact z_n 2) rfl ?_)))))))
     refine jk2 (F:=F) b rb (j _ _ _ Z Z)
    refine E8 (jpk hb ⟨Z,Z⟩ λc0 _ _=>(Ak (jl (BG [4,5,-1,0] Z (by show _ < (4:Int);omega)) jev) (jbs rfl rfl λa2=>(jia Z Z (jl (BG [4,5,-1,0] Z (by show _ < (4:Int);omega)) (jbd rfl rfl (Ak (jl (BG [4,5,-1,0] Z (by show _ < (4:Int);omega)) jev) ?_)))))));refine js rfl rfl (by exact z_n 2) rfl (jk2 (F:=F) b rb (j _ _ _ Z Z))
   refine FG ?_ ?_
   .refine jbs rfl rfl λa3=>(FG ?_ ?_)
    .refine jbs rfl rfl λa4=>(jia Z Z (jl (BG [4,5,-1,0] Z (by show _ < (4:Int);omega)) (jpk hb ⟨Z,Z⟩ λc4 _ _=>(jia Z Z (jl (BG [4,5,-1,0] Z (by show _ < (4:Int);omega)) (jbd rfl rfl (Ak (jl (BG [4,5,-1,0] Z (by show _ < (4:Int);omega)) jev) ?_)))))))
     refine js rfl rfl (by exact z_n 2) rfl (jk2 (F:=F) b rb (j _ _ _ Z Z))
    refine E8 (jpk hb ⟨Z,Z⟩ λc5 _ _=>(jia Z Z (jl (BG [4,5,-1,0] Z (by show _ < (4:Int);omega)) (jbs rfl rfl λa5=>(jia Z Z (jl (BG [4,5,-1,0] Z (by show _ < (4:Int);omega)) (jbd rfl rfl ?_)))))));refine Ak (jl (BG [4,5,-1,0] Z (by show _ < (4:Int);omega)) jev) (js rfl rfl (by exact z_n 2) rfl (jk2 (F:=F) b rb (j _ _ _ Z Z)))
   refine E8 (jpk hb ⟨Z,Z⟩ λc6 _ _=>(FG ?_ ?_))
   .refine jbs rfl rfl λa6=>(jia Z Z (jl (BG [4,5,-1,0] Z (by show _ < (4:Int);omega)) (jbs rfl rfl λa7=>?_)))
    refine jia Z Z (jl (BG [4,5,-1,0] Z (by show _ < (4:Int);omega)) (jbd rfl rfl (Ak (jl (BG [4,5,-1,0] Z (by show _ < (4:Int);omega)) jev) ?_)));refine js rfl rfl (by exact z_n 2) rfl (jk2 (F:=F) b rb (j _ _ _ Z Z))
   refine E8 (jbs rfl rfl λa8=>(jia Z Z (jl (BG [4,5,-1,0] Z (by show _ < (4:Int);omega)) ?_)));refine jbs rfl rfl λa9=>(jia Z Z (jl (BG [4,5,-1,0] Z (by show _ < (4:Int);omega)) (jbd rfl rfl ?_)))
   refine Ak (jl (BG [4,5,-1,0] Z (by show _ < (4:Int);omega)) jev) (js rfl rfl (by exact z_n 2) rfl (jk2 (F:=F) b rb (j _ _ _ Z Z)))
  refine E8 (jbs rfl rfl λb0=>(FG ?_ ?_))
  .refine jbs rfl rfl λb1=>(jpk hb ⟨Z,Z⟩ λc7 _ _=>(jia Z Z (jl (BG [4,5,-1,0] Z (by show _ < (4:Int);omega)) ?_)))
   refine jpk hb ⟨Z,Z⟩ λc8 _ _=>(jia Z Z (jl (BG [4,5,-1,0] Z (by show _ < (4:Int);omega)) (jbd rfl rfl ?_)))
   refine Ak (jl (BG [4,5,-1,0] Z (by show _ < (4:Int);omega)) jev) (js rfl rfl (by exact z_n 2) rfl (jk2 (F:=F) b rb (j _ _ _ Z Z)))
  refine E8 (jpk hb ⟨Z,Z⟩ λc9 _ _=>(FG ?_ ?_))
  .refine jbs rfl rfl λb2=>(jia Z Z (jl (BG [4,5,-1,0] Z (by show _ < (4:Int);omega)) (jpk hb ⟨Z,Z⟩ λd1 _ _=>?_)))
   refine jia Z Z (jl (BG [4,5,-1,0] Z (by show _ < (4:Int);omega)) (jbd rfl rfl (Ak (jl (BG [4,5,-1,0] Z (by show _ < (4:Int);omega)) jev) ?_)));refine js rfl rfl (by exact z_n 2) rfl (jk2 (F:=F) b rb (j _ _ _ Z Z))
  refine E8 (jpk hb ⟨Z,Z⟩ λN _ _=>(jia Z Z (jl (BG [4,5,-1,0] Z (by show _ < (4:Int);omega)) ?_)));refine jbs rfl rfl λG=>(jia Z Z (jl (BG [4,5,-1,0] Z (by show _ < (4:Int);omega)) (jbd rfl rfl ?_)))
  refine Ak (jl (BG [4,5,-1,0] Z (by show _ < (4:Int);omega)) jev) (js rfl rfl (by exact z_n 2) rfl (jk2 (F:=F) b rb (j _ _ _ Z Z)))
 .refine jpk hb ⟨Z,Z⟩ λx2 _ _=>jpk hb ⟨Z,Z⟩ λx3 _ _=>(jbd rfl rfl (js rfl rfl V rfl (jla (by exact z_n 2) rfl (FZ _ (RM.le.refl _) ⟨rfl,⟨x2,x3⟩,rfl⟩ Z Z))))
theorem Q3 (hb:Byt R v) (N:0<=m/\m < 500000000):Dr IH [Pt rb] R rb v m 3 (λx A=>A = R/\∃c:Cfg,x = .agg #[I c.AH,I c.AB,I c.AU]/\Bg c = true):=by
 refine NO λF=>?_
 refine z_1 ?_;refine ja λb=>(jpk hb ⟨Z,Z⟩ λD _ _=>jad (jpk hb ⟨Z,Z⟩ λG _ _=>jad (jbs rfl rfl λK=>(jpk hb ⟨Z,Z⟩ λH _ _=>jia Z Z ?_))))
 have j:=XD (l:=[16,32,0,8,100]) Z (by show _ < (5:Int);omega);refine jl (BG [16,32,0,8,100] Z (by show _ < (5:Int);omega)) ?_;generalize sel [16,32,0,8,100] H = y at j;refine jbd rfl rfl (js rfl rfl V rfl (jla (by exact z_n 3) rfl (FZ _ (RM.le.refl _) ⟨rfl,⟨4 + D,1 + G,y⟩,rfl,?_⟩ Z Z)));simp only[dX,List.not_mem_nil,or_false] at j;simp only[Bg,z_b,z_d];omega
end draws
def OpB (b b1 rb:Nat) (v:Value) (m c:Int) (F D:Chs):Prop:=∃k a b2 c2 f w r n m',(m<=m'/\-9223372036854775808<=w/\w < 9223372036854775808)/\m'<=m + c/\D = (b,C 86 [I k,I a,I b2,I c2,I f,I w,I r,I n]) :: (b1,C 86 (cl z86)) :: (rb,rdO v m') :: F
section draws
variable {R:RM} {rb:Nat} {v:Value} {m:Int}
theorem YD {n:Int} (hn:0<=n/\n < 1000000) (hb:Byt R v) (hm:0<=m/\m < 400000000):Dr Nv [Pt rb,I n] R rb v m 30 (λx G=>G = R/\∃o:Sm.Op,x = .agg (eOp o).toArray/\Rn o.v):=by
 refine V5 λF=>?_
 refine z_2 ?_;refine ja λA=>jad (jpk hb ⟨Z,Z⟩ λx1 _ _=>jad (jpk hb ⟨Z,Z⟩ λx2 _ _=>jad (jpk hb ⟨Z,Z⟩ λx3 _ _=>?_)))
 refine jpk hb ⟨Z,Z⟩ λx4 _ _=>jpk hb ⟨Z,Z⟩ λx5 _ _=>jsu ?_
 refine jbd rfl rfl (ja λb=>?_);refine jS [I 0,I x1,I x2,I x3,I x4,I (x5 - 6),I 0,I 0] ?_;refine Ac (λQ G H=>G = R/\OpB b A rb v m 9 F H/\Q = [Pt rb,Pt A,Pt b]) (λK N=>?_) ?_
 .refine Ac (λQ G H=>G = R/\OpB b A rb v m 6 F H/\∃c u w,GP c u w/\Q = [Pt rb,I n,Pt A,Pt b,c,u]) (λK2 j=>?_) ?_
  .refine jpk hb ⟨Z,Z⟩ λx6 _ _=>jgr (Dl (λD=>jgr ?_) (λD=>?_))<;>refine jk3 (F:=F) b A rb ?_
   .exact j _ _ _ ⟨rfl,⟨_,_,_,_,_,_,_,_,_,Z,Z,rfl⟩,_,_,_,D▸Bh,rfl⟩
   .exact j _ _ _ ⟨rfl,⟨_,_,_,_,_,_,_,_,_,Z,Z,rfl⟩,_,_,_,D▸By,rfl⟩
  rintro e R1 D1 ⟨O,⟨k,a,T,c2,f,w,r,n',m',D,W,hD⟩,c,u,w',ho,he⟩;subst O;refine z_W ?_;clear hD;rw[ho];refine jif (λ_=>?_) (λ_=>?_)
  .refine jpk hb ⟨Z,Z⟩ λy1 _ _=>js rfl rfl (dM rfl) rfl ?_
   refine jpk hb ⟨Z,Z⟩ λy2 _ _=>js rfl rfl (dM rfl) rfl ?_
   refine jpk hb ⟨Z,Z⟩ λy3 _ _=>js rfl rfl (dM rfl) rfl ?_
   refine jk3 (F:=F) b A rb ?_;exact N _ _ _ ⟨rfl,⟨_,_,_,_,_,_,_,_,_,Z,Z,rfl⟩,rfl⟩
  .exact N _ _ _ ⟨rfl,⟨_,_,_,_,_,_,_,_,_,Z,Z,rfl⟩,rfl⟩
 rintro e R1 D1 ⟨O,⟨k,a,T,c2,f,w,r,n',m',D,W,hD⟩,he⟩;subst O;refine z_W ?_;clear hD;refine jpk hb ⟨Z,Z⟩ λz _ _=>?_
 refine Ac (λQ G H=>G = R1/\OpB b A rb v m 15 F H/\Q = [Pt rb,Pt A,Pt b]) (λK N=>?_) ?_
 .refine jcI N λK2 j=>?_
  refine jlt (jif (λ_=>?_) (λ_=>jlt (jif (λ_=>?_) (λ_=>jlt (jif (λ_=>?_) (λ_=>jeq (jif (λ_=>?_) (λ_=>jeq (jif (λ_=>?_) (λ_=>jeq (jif (λ_=>?_) (λ_=>jeq (jif (λ_=>?_) (λ_=>jlt (jif (λ_=>?_) (λ_=>?_))))))))))))))))
  .refine js rfl rfl (dM rfl) rfl ?_;refine jdr (Lh hb ⟨Z,Z⟩) ?_;rintro _ R2 m2 - ⟨a0,sh,rfl⟩ h3 h4;subst a0;refine js rfl rfl (dM rfl) rfl ?_;refine jk3 (F:=F) b A rb ?_;exact j _ _ _ ⟨rfl,⟨_,_,_,_,_,_,_,_,_,Z,Z,rfl⟩,rfl⟩
  .refine js rfl rfl (dM rfl) rfl (jk3 (F:=F) b A rb ?_);exact j _ _ _ ⟨rfl,⟨_,_,_,_,_,_,_,_,_,Z,Z,rfl⟩,rfl⟩
  .refine js rfl rfl (dM rfl) rfl (jk3 (F:=F) b A rb ?_);exact j _ _ _ ⟨rfl,⟨_,_,_,_,_,_,_,_,_,Z,Z,rfl⟩,rfl⟩
  .refine js rfl rfl (dM rfl) rfl (jpk hb ⟨Z,Z⟩ λy _ _=>js rfl rfl (dM rfl) rfl (jk3 (F:=F) b A rb ?_));exact j _ _ _ ⟨rfl,⟨_,_,_,_,_,_,_,_,_,Z,Z,rfl⟩,rfl⟩
  .refine js rfl rfl (dM rfl) rfl (jpk hb ⟨Z,Z⟩ λy _ _=>js rfl rfl (dM rfl) rfl (jk3 (F:=F) b A rb ?_));exact j _ _ _ ⟨rfl,⟨_,_,_,_,_,_,_,_,_,Z,Z,rfl⟩,rfl⟩
  .refine js rfl rfl (dM rfl) rfl (jk3 (F:=F) b A rb ?_);exact j _ _ _ ⟨rfl,⟨_,_,_,_,_,_,_,_,_,Z,Z,rfl⟩,rfl⟩
  .refine js rfl rfl (dM rfl) rfl (jk3 (F:=F) b A rb ?_);exact j _ _ _ ⟨rfl,⟨_,_,_,_,_,_,_,_,_,Z,Z,rfl⟩,rfl⟩
  .refine js rfl rfl (dM rfl) rfl (jk3 (F:=F) b A rb ?_);exact j _ _ _ ⟨rfl,⟨_,_,_,_,_,_,_,_,_,Z,Z,rfl⟩,rfl⟩
  .refine jbs rfl rfl λbt=>jpk hb ⟨Z,Z⟩ λy _ _=>jia Z Z (jl (BG [9,10,11] Z (by show _ < (3:Int);omega)) ?_)
   refine js rfl rfl (dM rfl) rfl (jk3 (F:=F) b A rb ?_);exact j _ _ _ ⟨rfl,⟨_,_,_,_,_,_,_,_,_,Z,Z,rfl⟩,rfl⟩
 clear D W m';rintro e R2 D2 ⟨O,⟨k,a,T,c2,f,w,r,n',m',D,W,hD⟩,he⟩;subst O;refine z_W ?_;clear hD;refine Ac (λQ G H=>G = R2/\OpB b A rb v m 16 F H/\Q = [Pt rb,Pt A,Pt b]) (λK N=>?_) ?_
 .refine jpk hb ⟨Z,Z⟩ λy _ _=>jeq (jif (λ_=>js rfl rfl (dM rfl) rfl ?_) (λ_=>?_))<;>refine jk3 (F:=F) b A rb ?_
  .exact N _ _ _ ⟨rfl,⟨_,_,_,_,_,_,_,_,_,Z,Z,rfl⟩,rfl⟩
  .exact N _ _ _ ⟨rfl,⟨_,_,_,_,_,_,_,_,_,Z,Z,rfl⟩,rfl⟩
 clear D W m';rintro e R3 D3 ⟨O,⟨k,a,T,c2,f,w,r,n',m',D,W,hD⟩,he⟩;subst O;refine z_W ?_;clear hD;refine Ac (λQ G H=>G = R3/\OpB b A rb v m 20 F H/\Q = [Pt A,Pt b]) (λK N=>?_) ?_
 .refine jpk hb ⟨Z,Z⟩ λy _ _=>?_
  refine jcI N λK2 j=>?_
  refine jeq (jif (λ_=>?_) (λ_=>jeq (jif (λ_=>?_) (λ_=>jeq (jif (λ_=>?_) (λ_=>?_))))))
  .refine jbs (cs:=[I 0,I 12,I (-1)]) rfl rfl λbt=>jpk hb ⟨Z,Z⟩ λy _ _=>jia Z Z (jl (BG [0,12,-1] Z (by show _ < (3:Int);omega)) ?_)
   refine js rfl rfl (dM rfl) rfl (jk3 (F:=F) b A rb ?_);exact j _ _ _ ⟨rfl,⟨_,_,_,_,_,_,_,_,_,Z,Z,rfl⟩,rfl⟩
  .refine jbs (cs:=[I (-1),I 8,I 1099511627776]) rfl rfl λbt=>jpk hb ⟨Z,Z⟩ λy _ _=>jia Z Z (jl (BG [-1,8,1099511627776] Z (by show _ < (3:Int);omega)) ?_)
   refine js rfl rfl (dM rfl) rfl (jk3 (F:=F) b A rb ?_);exact j _ _ _ ⟨rfl,⟨_,_,_,_,_,_,_,_,_,Z,Z,rfl⟩,rfl⟩
  .refine jbs (cs:=[I (-1),I 4,I 1099511627776]) rfl rfl λbt=>jpk hb ⟨Z,Z⟩ λy _ _=>jia Z Z (jl (BG [-1,4,1099511627776] Z (by show _ < (3:Int);omega)) ?_)
   refine js rfl rfl (dM rfl) rfl (jk3 (F:=F) b A rb ?_);exact j _ _ _ ⟨rfl,⟨_,_,_,_,_,_,_,_,_,Z,Z,rfl⟩,rfl⟩
  .refine jk3 (F:=F) b A rb ?_;exact j _ _ _ ⟨rfl,⟨_,_,_,_,_,_,_,_,_,Z,Z,rfl⟩,rfl⟩
 clear D W m';rintro e R4 D4 ⟨O,⟨k,a,T,c2,f,w,r,n',m',D,W,hD⟩,he⟩;subst O;refine z_W ?_;clear hD;refine jla (l:=[I k,I a,I T,I c2,I f,I w,I r,I n']) (by exact z_n 8) rfl ?_;refine js rfl rfl (dM rfl) rfl ?_;refine jla (l:=[I k,I a,I T,I c2,I f,I w,I r,I n']) (by exact z_n 8) rfl ?_;exact FZ m' (RM.le.refl _) ⟨rfl,⟨k,a,T,c2,f,w,⟨r,n'⟩⟩,rfl,D.2⟩ Z Z
end draws
theorem Qm {R:RM} {D T A E:Chs} {t w x b m W:Nat} {rows:List (List Value)} {cs:List Value} {v:Value} {zs:List Value} {k:Value->M} (j:List (List Value)) (so:SW t w rows v A) [tk:Tk D b (C t cs) T] [sp:Sp T A E] (N:cs = j.flatten)
  (hw:∀r∈rows,r.length = w) (y:∀r∈j,r.length = w) (hz:zs.length = w) (hf:Bz j.flatten = true) (O:m = j.length) (hb:x≠0) (hl:x * (2 * (rows.length + j.length) + 200)<=2 ^ 48)
  (H:∀K G,SW t w (rows ++ j) K G->J R (G ++ E) (k K)):J R D (AP t w x zs v (S0 b m W) k):=by
 subst N;intro h hs;have h1:=(hs.perm tk.p).perm ((sp.p.cons _).trans dw.symm);refine jaw so hw y hz hf O hb hl ?_ (λK G Q=>B8 dw (BV (H K G Q))) h h1;have:=BY.held (R:=R) (D:=A ++ (b,C t j.flatten) :: E) (b:=b) (o:=0) (n:=m * w) (by rw[Br y,O];omega);rw[fG,dO (by rw[Br y,O];omega)] at this;exact this
theorem Oh {l:List Sm.Op}:∀r∈l.map eOp,r.length = 8:=by
 intro r j;obtain⟨x,_,rfl⟩:=dc.1 j;rfl
theorem Zx {R:RM} {A E:Chs} {l:List Sm.Op} {v:Value} {m:M} (y:SW 86 8 (l.map eOp) v A) (H:∀j,R.le j->Ops j v l->J j E m):J R (A ++ E) m:=by
 refine jfw y Oh λj x hfz=>H j x ?_
 rw[dN] at hfz;exact hfz
def Vs (l:List Sm.Op):Prop:=∀o∈l,Rn o.v
theorem Vs.app {l l' : List Sm.Op} (h:Vs l) (j : Vs l'):Vs (l ++ l'):=λo x=>(dg.1 x).elim (h o) (j o)
theorem Vs.nil:Vs []:=λo j=>by cases j
theorem Vs.one {o:Sm.Op} (h:Rn o.v):Vs [o]:=λx j=>by rw[dZ.1 j];exact h
def OpP (b rb:Nat) (v:Value) (m c:Int) (F D:Chs):Prop:=∃k a b2 c2 f w r n m',(m<=m'/\-9223372036854775808<=w/\w < 9223372036854775808)/\m'<=m + c/\D = (b,C 86 [I k,I a,I b2,I c2,I f,I w,I r,I n]) :: (rb,rdO v m') :: F
section draws
variable {R:RM} {rb:Nat} {v:Value} {m:Int}
theorem Vj {n:Nat} (hn:n<=1000) (hb:Byt R v) (hm:0<=m/\m < 300000000):Dr L4 [Pt rb,I n] R rb v m (50 * n) (λx j=>∃l:List Sm.Op,(l.length = n/\Vs l)/\Ops j x l):=by
 refine QQ λF=>?_
 refine z_2 ?_;refine Ac (λN j D=>j = R/\∃(l:List Sm.Op) (Q:Value) (A:Chs) (m' : Int),(l.length = n/\Vs l)/\SW 86 8 (l.map eOp) Q A/\m<=m'/\m'<=m + 50 * n/\D = A ++ (rb,rdO v m') :: F/\N = [Q]) (λK hK=>?_) ?_;rotate_left
 .rintro e R1 D1 ⟨H,l,Q,A,m',hl,so,h1,h2,hD,he⟩;subst H;refine z_W ?_;clear hD;exact Zx so λR2 a1 ho=>FZ m' a1 ⟨l,hl,ho⟩ h1 h2
 refine jcI hK λK2 a3=>?_
 refine jlp (λmm N j D=>j = R/\∃(i:Nat) (r:Int) (l:List Sm.Op) (Q:Value) (A:Chs) (m' : Int),i<=n/\(l.length = i/\Vs l)/\0<=r/\r<=i + 1/\SW 86 8 (l.map eOp) Q A/\m<=m'/\m'<=m + 50 * i/\D = A ++ (rb,rdO v m') :: F/\N = [Pt rb,I n,Q,I r,I i]/\mm = n - i)
  (n:=n) ⟨rfl,0,1,[],SN,[],m,Z,⟨rfl,Vs.nil⟩,Z,Z,.inl ⟨rfl,rfl,rfl⟩,Z,Z,rfl,rfl,Z⟩ ?_
 rintro mm e R1 D1 K3 ⟨H,i,r,l,Q,A,m',hi,⟨hl,a2⟩,r0,r1,so,h1,h2,hD,he,b0⟩ a4;subst H;refine z_W ?_;clear hD;refine jlt (jif (λhc=>?_) (λhc=>?_));rotate_left
 .have hc:=z_g hc;have:i = n:=Z
  subst this;exact a3 _ _ _ ⟨rfl,l,Q,A,m',⟨hl,a2⟩,so,h1,h2,rfl,rfl⟩
 have hc:i < n:=by have:=z_f hc;omega
 refine jdr (YD ⟨r0,Z⟩ hb ⟨Z,Z⟩) ?_;rintro _ R2 m2 - ⟨a1,o,rfl,a8⟩ h3 h4;subst a1;unfold Rn at a8;refine ja λb=>js rfl rfl (by exact z_n 8) rfl (Ac (λN j D=>j = R2/\OpP b rb v m2 4 (A ++ F) D/\N = [Pt rb,I n,Q,I r,I i,Pt b]) (λK4 W=>?_) ?_)
 .refine Ac (λN j D=>j = R2/\OpP b rb v m2 0 (A ++ F) D/\∃c u w,GP c u w/\N = [Pt rb,I n,Q,I r,I i,Pt b,c,u]) (λK5 O=>?_) ?_
  .refine jle (Dl (λh=>jl rfl (jeq ?_)) (λh=>?_))
   .exact O _ _ _ ⟨rfl,⟨_,_,_,_,_,_,_,_,_,Z,Z,rfl⟩,_,_,_,h▸Bh,rfl⟩
   .exact O _ _ _ ⟨rfl,⟨_,_,_,_,_,_,_,_,_,Z,Z,rfl⟩,_,_,_,h▸By,rfl⟩
  rintro e Rx Dx ⟨H,⟨k,a,b2,c2,f,w,r',n',T,h5,h6,hD⟩,c,u,w',ho,he⟩;subst H;refine z_W ?_;clear hD;refine Ac (λN j D=>j = Rx/\OpP b rb v m2 1 (A ++ F) D/\∃c u w,GP c u w/\N = [Pt rb,I n,Q,I r,I i,Pt b,c,u]) (λK5 O=>?_) ?_
  .rw[ho];refine Dl (λh=>jpk hb ⟨Z,Z⟩ λy _ _=>jgr ?_) (λh=>?_)<;>refine jk2 (F:=A ++ F) b rb ?_
   .exact O _ _ _ ⟨rfl,⟨_,_,_,_,_,_,_,_,_,Z,Z,rfl⟩,_,_,_,h▸Bh,rfl⟩
   .exact O _ _ _ ⟨rfl,⟨_,_,_,_,_,_,_,_,_,Z,Z,rfl⟩,_,_,_,h▸By,rfl⟩
  clear h5 h6 T ho;rintro e Ry Dy ⟨H,⟨k,a,b2,c2,f,w,r',n',T,h5,h6,hD⟩,c,u,w',ho,he⟩;subst H;refine z_W ?_;clear hD;rw[ho];refine jif (λh=>?_) (λh=>?_)
  .refine jdr (Lh hb ⟨Z,Z⟩) ?_;rintro _ R3 m4 - ⟨a7,sh,rfl⟩ h7 h8;subst a7;refine jbd rfl rfl (js rfl rfl (by exact z_n 8) rfl (jk2 (F:=A ++ F) b rb (W _ _ _ ⟨rfl,⟨_,_,_,_,_,_,_,_,_,Z,Z,rfl⟩,rfl⟩)))
  .exact W _ _ _ ⟨rfl,⟨_,_,_,_,_,_,_,_,_,Z,Z,rfl⟩,rfl⟩
 rintro e Rx Dx ⟨H,⟨k,a,b2,c2,f,w,r',n',T,h5,h6,hD⟩,he⟩;subst H;refine z_W ?_;clear hD;refine Ac (λN j D=>j = Rx/\OpP b rb v m2 4 (A ++ F) D/\N = [Pt rb,I n,Q,I r,I i,Pt b]) (λK4 W=>?_) ?_
 .refine Ac (λN j D=>j = Rx/\OpP b rb v m2 4 (A ++ F) D/\∃c u w,GP c u w/\N = [Pt rb,I n,Q,I r,I i,Pt b,c,u]) (λK5 O=>?_) ?_
  .refine jge (Dl (λh=>?_) (λh=>?_))
   .have hu:∀w' : Bool,J Rx ((b,C 86 [I k,I a,I b2,I c2,I f,I w,I r',I n']) :: (rb,rdO v T) :: (A ++ F)) (K5 [Pt rb,I n,Q,I r,I i,Pt b,.bool (decide (r>=7)),.bool w']):=λw'=>
     O _ _ _ ⟨rfl,⟨_,_,_,_,_,_,_,_,_,Z,Z,rfl⟩,_,_,_,h▸Bh,rfl⟩
    refine jl rfl (jeq (FB (λh2=>?_) (λh2=>?_)))<;>rw[h2]
    .refine jl rfl (jeq (F5 (FB (λh3=>?_) (λh3=>?_))))<;>rw[h3]
     .exact jl rfl (jeq (F5 (hu _)))
     .exact EP (hu _)
    .exact EP (jtf (EP (hu _)))
   .exact O _ _ _ ⟨rfl,⟨_,_,_,_,_,_,_,_,_,Z,Z,rfl⟩,_,_,_,h▸By,rfl⟩
  clear h5 h6 T;rintro e Ry Dy ⟨H,⟨k,a,b2,c2,f,w,r',n',T,h5,h6,hD⟩,c,u,w',ho,he⟩;subst H;refine z_W ?_;clear hD;rw[ho];refine jif (λh=>?_) (λh=>?_)
  .refine jbd rfl rfl (js rfl rfl (by exact z_n 8) rfl (W _ _ _ ⟨rfl,⟨_,_,_,_,_,_,_,_,_,Z,Z,rfl⟩,rfl⟩))
  .exact W _ _ _ ⟨rfl,⟨_,_,_,_,_,_,_,_,_,Z,Z,rfl⟩,rfl⟩
 clear h5 h6 T;rintro e Ry Dy ⟨H,⟨k,a,b2,c2,f,w,r',n',T,h5,h6,hD⟩,he⟩;subst H;refine z_W ?_;clear hD;refine Ac (λN j D=>j = Ry/\D = (b,C 86 [I k,I a,I b2,I c2,I f,I w,I r',I n']) :: (rb,rdO v T) :: (A ++ F)/\∃r2:Int,0<=r2/\r2<=r + 1/\N = [Pt rb,I n,Q,I r2,I i,Pt b]) (λK6 a5=>?_) ?_
 .refine jl rfl (Ac (λN j D=>j = Ry/\D = (b,C 86 [I k,I a,I b2,I c2,I f,I w,I r',I n']) :: (rb,rdO v T) :: (A ++ F)/\∃r2:Int,0<=r2/\r2<=r + 1/\N = [Pt rb,I n,Q,I r2,I i,Pt b]) (λK7 a0=>?_) ?_);rotate_left
  .rintro e Rz Dz ⟨H,hD,r2,q0,q1,he⟩;refine z_V ?_;exact a5 _ _ _ ⟨H,hD,r2,q0,q1,rfl⟩
  refine Ac (λN j D=>j = Ry/\D = (b,C 86 [I k,I a,I b2,I c2,I f,I w,I r',I n']) :: (rb,rdO v T) :: (A ++ F)/\∃w' : Bool,N = [Pt rb,I n,Q,I r,I i,Pt b,I k,.bool w']) (λK8 a6=>?_) ?_
  .refine jeq (jif (λh=>?_) (λh=>jeq (jif (λh=>?_) (λh=>jeq ?_))))<;>exact a6 _ _ _ ⟨rfl,rfl,_,rfl⟩
  rintro e Rz Dz ⟨H,hD,w',he⟩;subst H;refine z_W ?_;clear hD;refine jif (λh=>jad ?_) (λh=>jeq (jif (λh=>jgr (jif (λh=>jsu ?_) (λh=>?_))) (λh=>?_)))
  .exact a0 _ _ _ ⟨rfl,rfl,r + 1,Z,Z,rfl⟩
  .have h:=z_f h;exact a0 _ _ _ ⟨rfl,rfl,r - 1,Z,Z,rfl⟩
  .exact a0 _ _ _ ⟨rfl,rfl,r,Z,Z,rfl⟩
  .exact a0 _ _ _ ⟨rfl,rfl,r,Z,Z,rfl⟩
 rintro e Rz Dz ⟨H,hD,r2,q0,q1,he⟩;subst H;refine z_W ?_;clear hD;refine jla (by exact z_n 8) rfl (jbs rfl rfl λbs=>?_);refine Qm [eOp ⟨k,a,b2,c2,f,w,⟨r',n'⟩⟩] so rfl Oh (λq hq=>by rw[dZ.1 hq];rfl) rfl rfl rfl δ (by rw[dN,di];omega) λv' A' a9=>(jad ?_)
 refine Al A' (G:=(rb,rdO v T) :: F) (a4 (n - (i + 1)) _ _ _ Z ⟨rfl,i + 1,r2,l ++ [⟨k,a,b2,c2,f,w,⟨r',n'⟩⟩],v',A',T,Z,⟨by rw[dK,hl];rfl,a2.app (Vs.one (by exact h5.2))⟩,q0,Z,by rw[dz];exact a9,Z,Z,rfl,rfl,rfl⟩)
end draws
theorem FI.le {R j : RM} {v:Value} {l:List (List Sm.Op)} (h:R.le j) (H:FI R v l):FI j v l:=by
 obtain⟨O,y,A,D⟩:=H;exact⟨O,y.le h,A,λi G=>by obtain⟨x,N,K⟩:=D i G;exact⟨x,N,K.le h⟩⟩
def PrW (R:RM) (rows:List (List Value)) (l:List (List Sm.Op)):Prop:=Rw (λrow p=>∃x,row = [x]/\Ops R x p) rows l
theorem PrW.len {R:RM} {rows:List (List Value)} {l:List (List Sm.Op)} (h:PrW R rows l):∀r∈rows,r.length = 1:=h.all λ_ _ ⟨_,j,_⟩=>by rw[j];rfl
theorem PrW.le {R j : RM} {rows:List (List Value)} {l:List (List Sm.Op)} (D:R.le j) (h:PrW R rows l):PrW j rows l:=h.mono λ_ _ ⟨x,y,A⟩=>⟨x,y,A.le D⟩
theorem ZX:∀{rows:List (List Value)} (_:∀r∈rows,r.length = 1) (i:Nat) (h:i < rows.length),rows.flatten[i]? = (rows[i])[0]?
 | [],_,i,h=>absurd h V
 | a :: r,hw,i,h=>by
  have j:a.length = 1:=hw a V;rw[fd];cases i with
  | zero=>rw[fC Z];rfl
  | succ i=>rw[fZ Z,j,Nat.add_sub_cancel,ZX (λx y=>hw x (by simp[y])) i (by simpa using h)];rfl
theorem W2 {R:RM} {A E:Chs} {t:Nat} {rows:List (List Value)} {l:List (List Sm.Op)} {v:Value} {m:M} (Q:SW t 1 rows v A) (j:PrW R rows l) (H:∀y,R.le y->FI y v l->J y E m):J R (A ++ E) m:=by
 refine jfw Q j.len λy G hfz=>H y G ⟨rows.flatten,?_,?_,λi K=>?_⟩
 .rw[<- j.1];exact hfz
 .rw[Br j.len,j.1];omega
 .have D : i < rows.length:=by rw[j.1];exact K
  obtain⟨x,N,O⟩:=j.2 i D K;exact⟨x,by rw[ZX j.len i D,N];rfl,O.le G⟩
theorem RI:∀(q:List Sm.Op) (u:Nat),(Ad eOp q).take (u * 8) = Ad eOp (q.take u)
 | [],u=>by simp[Ad]
 | x :: r,0=>by simp[Ad]
 | x :: r,u + 1=>by
  have:=RI r u;unfold Ad at this ⊢;rw[List.take_succ_cons,eN,eN,fd,fd,List.take_append,dO (by show 8<=_;omega),<- this];congr 2;show (u + 1) * 8 - 8 = _;omega
section draws
variable {R:RM} {rb:Nat} {v:Value} {m:Int}
theorem SE {n:Nat} (hn:n<=39) (hb:Byt R v) (hm:0<=m/\m < 300000000):Dr It [Pt rb,I n] R rb v m 1000 (λx R'=>∃l:List Sm.Op,(l.length<=40/\Vs l)/\Ops R' x l):=by
 refine PL λF=>?_
 refine z_2 ?_;have b0:∀(l:List Sm.Op) (O:Value) (A:Chs) (m' : Int),l.length<=40/\Vs l->SW 86 8 (l.map eOp) O A->m<=m'->m'<=m + 1000->J R (A ++ (rb,rdO v m') :: F) (Fj R F (λx R' A=>R.le R'/\(∃l:List Sm.Op,(l.length<=40/\Vs l)/\Ops R' x l)/\∃m',m<=m'/\m'<=m + 1000/\A = [(rb,rdO v m')]) O):=λl O A m' hl so h1 h2=>
  Zx so λR2 a4 ho=>FZ m' a4 ⟨l,hl,ho⟩ h1 h2
 refine Ac (λvs R' D'=>R' = R/\∃(l:List Sm.Op) (O:Value) (A:Chs) (m' : Int),(l.length<=40/\Vs l)/\SW 86 8 (l.map eOp) O A/\m<=m'/\m'<=m + 1000/\D' = A ++ (rb,rdO v m') :: F/\vs = [O]) (λK hK=>?_) ?_;rotate_left
 .rintro e R1 D1 ⟨hR,l,O,A,m',hl,so,h1,h2,hD,he⟩;subst hR;refine z_W ?_;exact b0 l O A m' hl so h1 h2
 refine jcI hK λK2 b1=>?_
 refine jlp (λmm vs R' D'=>R' = R/\∃(l:List Sm.Op) (O:Value) (A:Chs) (m' : Int),(l.length<=40/\Vs l)/\SW 86 8 (l.map eOp) O A/\m<=m'/\m'<=m + 10 * l.length/\D' = A ++ (rb,rdO v m') :: F/\vs = [Pt rb,I n,O]/\mm = 40 - l.length)
  ⟨rfl,[],SN,[],m,⟨δ,Vs.nil⟩,.inl ⟨rfl,rfl,rfl⟩,Z,V,rfl,rfl,rfl⟩ ?_
 rintro mm e R1 D1 K3 ⟨hR,l,O,A,m',⟨hl,hv⟩,so,h1,h2,hD,he,c0⟩ b2;subst hR;refine z_W ?_;have a7:=so.sl;rw[dN] at a7;refine Bf a7 (jad (jlt (jif (λhc=>?_) (λhc=>?_))));rotate_left
 .exact b1 _ _ _ ⟨rfl,l,O,A,m',⟨hl,hv⟩,so,h1,Z,rfl,rfl⟩
 have hc:=z_f hc;have b9:l.length<=32:=Z
 refine jpk hb ⟨Z,Z⟩ λy1 _ _=>jad (jpk hb ⟨Z,Z⟩ λy2 _ _=>(jbd rfl rfl (jbd rfl rfl (jbs rfl rfl λbs=>?_))))
 have app:∀{D:Chs} {b cx:Nat} {cs:List Value} {l1:List Sm.Op} {a1:Value} {A1 E D1:Chs} {k:Value->M} (N:List Sm.Op),SW 86 8 (l1.map eOp) a1 A1->Tk D b (C 86 cs) D1->Sp D1 A1 E->cs = (N.map eOp).flatten->l1.length + N.length<=40->
   (∀j T,SW 86 8 ((l1 ++ N).map eOp) j T->J R1 (T ++ E) (k j))->J R1 D (AP 86 8 64 (cl z86) a1 (S0 b N.length cx) k):=λ{D b cx cs l1 a1 A1 E D1 k} N Q tk sp b4 hlen H=>by
  refine Qm (N.map eOp) Q b4 Oh Oh rfl (QA λr hr=>?_) (by rw[dN]) δ (by rw[dN,dN];omega) λv' A' b7=>H v' A' (by rw[dz];exact b7)
  obtain⟨x,_,rfl⟩:=dc.1 hr;rfl
 refine app [⟨1,0,0,0,0,0,⟨1 + y1,y2⟩⟩] so inferInstance inferInstance rfl (by rw[di];omega) λa1 A1 Q=>?_
 generalize a5:l ++ [(⟨1,0,0,0,0,0,⟨1 + y1,y2⟩⟩:Sm.Op)] = l1 at Q;have a0:Vs l1:=a5▸hv.app (Vs.one Rn.zero);have b8:l1.length = l.length + 1:=by rw[<- a5];simp
 have a8:=Q.sl;rw[dN] at a8;refine Ac (λvs R' D'=>R' = R1/\∃(N:List Sm.Op) (O:Value) (A:Chs) (m2:Int),l.length < N.length/\N.length<=l.length + 7/\(N.length<=39/\Vs N)/\SW 86 8 (N.map eOp) O A/\m'<=m2/\m2<=m' + 6/\D' = A ++ (rb,rdO v m2) :: F/\vs = [Pt rb,I n,O]) (λK4 b3=>?_) ?_
 .refine jpk hb ⟨Z,Z⟩ λy3 _ _=>(Ac (λvs R' D'=>R' = R1/\∃(N:List Sm.Op) (O:Value) (A:Chs) (m2:Int),l.length < N.length/\N.length<=l.length + 7/\(N.length<=39/\Vs N)/\SW 86 8 (N.map eOp) O A/\m'<=m2/\m2<=m' + 6/\D' = A ++ (rb,rdO v m2) :: F/\vs = [Pt rb,I n,O]) (λK5 W=>?_) ?_)
  rotate_left
  .rintro e Rx Dx ⟨hR,N,O,A,m2,q1,q2,q3,y,q4,q5,hD,he⟩;refine z_V ?_;exact b3 _ _ _ ⟨hR,N,O,A,m2,q1,q2,q3,y,q4,q5,hD,rfl⟩
  refine jeq (jif (λ_=>?_) (λ_=>jeq (jif (λ_=>?_) (λ_=>jeq (jif (λ_=>?_) (λ_=>jeq (jif (λ_=>?_) (λ_=>jeq (jif (λ_=>?_) (λ_=>?_))))))))))
  .refine jbd rfl rfl (jbd rfl rfl (jbd rfl rfl (jbd rfl rfl (jbs rfl rfl λbt=>(app [⟨10,1,0,0,0,0,⟨0,0⟩⟩,⟨3,1,0,0,0,0,⟨0,0⟩⟩,⟨5,1,0,0,0,0,⟨0,0⟩⟩,⟨11,1,0,0,0,0,⟨0,0⟩⟩] Q inferInstance inferInstance rfl (by simp;omega) λj T y=>(W _ _ _ ⟨rfl,_,j,T,_,by simp;omega,by simp;omega,⟨by simp;omega,a0.app (by simp[Vs,Rn]<;>omega)⟩,y,Z,Z,rfl,rfl⟩))))))
  .refine jpk hb ⟨Z,Z⟩ λz1 _ _=>jbd rfl rfl (jbs rfl rfl λbt=>(app [⟨3,0,1,0,z1,0,⟨0,0⟩⟩] Q inferInstance inferInstance rfl (by simp;omega) λj T y=>(W _ _ _ ⟨rfl,_,j,T,_,by simp;omega,by simp;omega,⟨by simp;omega,a0.app (by simp[Vs,Rn]<;>omega)⟩,y,Z,Z,rfl,rfl⟩)))
  .refine jpk hb ⟨Z,Z⟩ λz1 _ _=>jbd rfl rfl (jbd rfl rfl (jpk hb ⟨Z,Z⟩ λz2 _ _=>jbd rfl rfl (jbd rfl rfl (jbs rfl rfl λbt=>(app [⟨2,0,0,0,z1,0,⟨0,0⟩⟩,⟨3,1,2,0,0,0,⟨0,0⟩⟩,⟨3,0,1,0,z2,0,⟨0,0⟩⟩,⟨8,0,0,0,0,0,⟨0,0⟩⟩] Q inferInstance inferInstance rfl (by simp;omega) λj T y=>(W _ _ _ ⟨rfl,_,j,T,_,by simp;omega,by simp;omega,⟨by simp;omega,a0.app (by simp[Vs,Rn]<;>omega)⟩,y,Z,Z,rfl,rfl⟩))))))
  .refine jpk hb ⟨Z,Z⟩ λz1 _ _=>jbd rfl rfl (jbd rfl rfl (jbd rfl rfl (jbd rfl rfl (jbs rfl rfl λbt=>(app [⟨2,0,0,0,z1,0,⟨0,0⟩⟩,⟨7,0,2,1,z1,0,⟨0,0⟩⟩,⟨6,1,2,0,0,0,⟨0,0⟩⟩,⟨8,0,0,0,0,0,⟨0,0⟩⟩] Q inferInstance inferInstance rfl (by simp;omega) λj T y=>(W _ _ _ ⟨rfl,_,j,T,_,by simp;omega,by simp;omega,⟨by simp;omega,a0.app (by simp[Vs,Rn]<;>omega)⟩,y,Z,Z,rfl,rfl⟩))))))
  .refine jpk hb ⟨Z,Z⟩ λz1 _ _=>jbd (cs:=[I 2,I 0,I 0,I 0,I z1,I 0,I 0,I 0]) rfl rfl (jpk hb ⟨Z,Z⟩ λz2 _ _=>jbd rfl rfl (jbd rfl rfl (jbd rfl rfl (jbd rfl rfl (jbd rfl rfl (jbs rfl rfl λbt=>(app [⟨2,0,0,0,z1,0,⟨0,0⟩⟩,⟨4,2,0,0,0,z2,⟨0,0⟩⟩,⟨5,2,0,0,0,0,⟨0,0⟩⟩,⟨2,2,0,0,0,0,⟨0,0⟩⟩,⟨8,0,0,0,0,0,⟨0,0⟩⟩,⟨8,0,0,0,0,0,⟨0,0⟩⟩] Q inferInstance inferInstance rfl (by simp;omega) λj T y=>?_)))))))
   obtain⟨l3,a6,a2⟩:∃l3:List Sm.Op,(l3.length = l1.length + 6/\Vs l3)/\SW 86 8 (l3.map eOp) j T:=⟨_,⟨V,a0.app (by simp[Vs,Rn]<;>omega)⟩,y⟩;obtain⟨a6,a9⟩:=a6;have a3:=a2.sl;rw[dN] at a3;refine Bf a3 (jgr (jif (λhg=>?_) (λhg=>?_)))
   .have hg:=z_f hg;refine Zx a2 λR2 a4 ho=>cW ho δ Z λv' b5=>FZ _ a4 ⟨l3.take 38,⟨by rw[dU];omega,λo ho=>a9 o (eJ ho)⟩,?_⟩ Z Z
    unfold Ops;rw[dU,Nat.min_eq_left Z,<- RI];exact b5
   .have hg:=z_g hg;exact W _ _ _ ⟨rfl,l3,j,T,_,Z,Z,⟨Z,a9⟩,a2,Z,Z,rfl,rfl⟩
  .refine Al A1 (G:=(rb,rdO v (m' + 1 + 1 + 1)) :: F) (W _ _ _ ⟨rfl,l1,a1,A1,_,Z,Z,⟨Z,a0⟩,Q,Z,Z,rfl,rfl⟩)
 rintro e Rx Dx ⟨hR,N,O,A,m2,q1,q2,⟨q3,b6⟩,y,q4,q5,hD,he⟩;subst hR;refine z_W ?_;refine jbd rfl rfl (jbs rfl rfl λbt=>(app [⟨8,0,0,0,0,0,⟨0,0⟩⟩] y inferInstance inferInstance rfl (by simp;omega) λj T a2=>(b2 (40 - (N.length + 1)) _ _ _ Z ⟨rfl,_,j,T,_,⟨by simp;omega,b6.app (Vs.one Rn.zero)⟩,a2,Z,by simp;omega,rfl,rfl,V⟩)))
end draws
@[reducible] def eCf (c:Cfg):List Value:=[I c.AH,I c.AB,I c.AU]
theorem SO.sln {l:List Int} {v:Value} {A:Chs} (h:SO l v A):∃a c,v = .slice a l.length c:=by
 rcases h with ⟨rfl,rfl,_⟩ | ⟨b,c,sp,_,_,rfl,_⟩<;>exact⟨_,_,rfl⟩
section draws
variable {R:RM} {rb:Nat} {v:Value} {m:Int}
theorem SA {c:Cfg} (hc:Bg c = true) (hb:Byt R v) (hm:0<=m/\m < 200000000):Dr JK [Pt rb,.agg #[I c.AH,I c.AB,I c.AU]] R rb v m 10000 (λx O=>∃l:List (List Sm.Op),(l.length:Int) = c.AB/\(∀p∈l,p.length<=40/\Vs p)/\FI O x l):=by
 refine P1 λF=>?_
 refine z_2 ?_;simp only[Bg,z_b,z_d] at hc;obtain⟨n,hn⟩:∃n:Nat,c.AB = n:=⟨c.AB.toNat,Z⟩;refine ja λb=>B8 (fF _ _ _) (Ac (λvs O D'=>R.le O/\∃(l:List (List Sm.Op)) (rows:List (List Value)) (N:Value) (A:Chs) (m' : Int),l.length = n/\(∀p∈l,p.length<=40/\Vs p)/\PrW O rows l/\SW 79 1 rows N A/\m<=m'/\m'<=m + 10000/\D' = A ++ (rb,rdO v m') :: (b,C 24 (eCf c)) :: F/\vs = [N]) (λK hK=>?_) ?_)
 rotate_left
 .rintro e R1 D1 ⟨Q,l,rows,N,A,m',hl,T,j,W,h1,h2,hD,he⟩;refine z_W ?_;exact W2 W j λR2 G ho=>FZ m' (Q.trans G) ⟨l,Z,T,ho⟩ h1 h2
 refine jcI hK λK2 a0=>?_
 refine jlp (λmm vs O D'=>R.le O/\∃(i:Nat) (l:List (List Sm.Op)) (rows:List (List Value)) (N:Value) (A:Chs) (m' : Int),i<=n/\l.length = i/\(∀p∈l,p.length<=40/\Vs p)/\PrW O rows l/\SW 79 1 rows N A/\m<=m'/\m'<=m + 3000 * i/\D' = A ++ (rb,rdO v m') :: (b,C 24 (eCf c)) :: F/\vs = [Pt rb,Pt b,N,I i]/\mm = n - i)
  (n:=n) ⟨RM.le.refl R,0,[],[],SN,[],m,Z,rfl,(λp T=>by cases T),Rw.nil,.inl ⟨rfl,rfl,rfl⟩,Z,Z,rfl,rfl,Z⟩ ?_
 rintro mm e R1 D1 K3 ⟨Q,i,l,rows,N,A,m',hi,hl,T,j,W,h1,h2,hD,he,a4⟩ a1;refine z_W ?_;refine jl rfl (jlt (jif (λh=>?_) (λh=>?_)));rotate_left
 .have h:=z_g h;exact a0 _ _ _ ⟨Q,l,rows,N,A,m',Z,T,j,W,h1,Z,rfl,rfl⟩
 have h:=z_f h;refine jpk (hb.le Q) ⟨Z,Z⟩ λy _ _=>jad ?_
 obtain⟨k,hk⟩:∃k:Nat,4 + y = k:=⟨(4 + y).toNat,Z⟩;rw[hk];refine jdr (Vj Z (hb.le Q) ⟨Z,Z⟩) ?_;rintro x R2 m2 G ⟨q,⟨hq,a2⟩,H⟩ h3 h4;obtain⟨xa,xc,hx⟩:=Fz.sl H;subst hx;refine jbs rfl rfl λbs=>?_
 have a5:=j.1;refine Qm [[.slice xa q.length xc]] W rfl j.len (λr hr=>by rw[dZ.1 hr];rfl) rfl rfl rfl δ (by rw[di];omega) λv' A' a3=>(jad (a1 (n - (i + 1)) _ _ _ Z ⟨Q.trans G,i + 1,l ++ [q],_,v',A',m2,Z,by rw[dK,hl];rfl,λp D=>?_,(j.le G).app (Rw.one ⟨_,rfl,H⟩),a3,Z,Z,rfl,rfl,rfl⟩))
 rcases dg.1 D with D | D
 .exact T p D
 .rw[dZ.1 D];exact⟨Z,a2⟩
def Sml (l:List Int):Prop:=∀a∈l,0<=a/\a<=9
theorem Sml.snoc {l:List Int} {x:Int} (h:Sml l) (h0:0<=x) (y:x<=9):Sml (l ++ [x]):=λa j=>by
 rcases dg.1 j with j | j
 .exact h a j
 .rw[dZ.1 j];exact⟨h0,y⟩
theorem TF {c:Cfg} {n:Nat} (hc:Bg c = true) (hn:n<=4000) (hb:Byt R v) (hm:0<=m/\m < 200000000):Dr Iu [Pt rb,.agg #[I c.AH,I c.AB,I c.AU],I n] R rb v m 500000 (λx N=>∃l:List Int,l.length = n/\Sml l/\Ay N x l):=by
 refine Om λF=>?_
 refine z_3 ?_;simp only[Bg,z_b,z_d] at hc;refine ja λb=>B8 (fF _ _ _) (Ac (λT N O=>N = R/\∃(l:List Int) (j:Value) (A:Chs) (m' : Int),n<=l.length/\Sml l/\SO l j A/\m<=m'/\m'<=m + 500000/\O = A ++ (rb,rdO v m') :: (b,C 24 (eCf c)) :: F/\T = [I n,j]) (λK hK=>?_) ?_)
 rotate_left
 .rintro e R1 D1 ⟨Q,l,j,A,m',hl,hp,D,h1,h2,hD,he⟩;subst Q;refine z_W ?_;clear hD;refine Dv D λR2 b1 hi=>XK hi Z Z λv' a7=>FZ m' b1 ⟨l.take n,by rw[dU];omega,λa ha=>hp a (eJ ha),by rw[dG] at a7;exact a7⟩ h1 h2
 refine jcI hK λK2 a8=>?_
 refine jlp (λmm T N O=>N = R/\∃(l:List Int) (j:Value) (A:Chs) (m' : Int),l.length<=4100/\Sml l/\SO l j A/\m<=m'/\m'<=m + 100 * l.length/\O = A ++ (rb,rdO v m') :: (b,C 24 (eCf c)) :: F/\T = [Pt rb,I n,Pt b,j]/\mm = 4100 - l.length)
  ⟨rfl,[],SN,[],m,δ,(λp hp=>by cases hp),.inl ⟨rfl,rfl,rfl⟩,Z,V,rfl,rfl,rfl⟩ ?_
 rintro mm e R1 D1 K3 ⟨Q,l,j,A,m',hl,hp,D,h1,h2,hD,he,a6⟩ a9;subst Q;refine z_W ?_;clear hD;refine Bf D.sln (jlt (jif (λh=>?_) (λh=>?_)));rotate_left
 .have h:=z_g h;exact a8 _ _ _ ⟨rfl,l,j,A,m',Z,hp,D,h1,Z,rfl,rfl⟩
 have h:=z_f h;refine Ac (λT N O=>N = R1/\∃(H:List Int) (j:Value) (A:Chs) (m2:Int),l.length < H.length/\H.length<=l.length + 80/\Sml H/\SO H j A/\m'<=m2/\m2<=m' + 80/\O = A ++ (rb,rdO v m2) :: (b,C 24 (eCf c)) :: F/\T = [Pt rb,I n,Pt b,j]) (λK4 a5=>?_) ?_;rotate_left
 .rintro e Rx Dx ⟨Q,H,j,A,m2,q1,q2,a2,b2,q3,q4,hD,he⟩;subst Q;refine z_W ?_;clear hD;exact a9 (4100 - H.length) _ _ _ Z ⟨rfl,H,j,A,m2,Z,a2,b2,Z,Z,rfl,rfl,rfl⟩
 refine jpk hb ⟨Z,Z⟩ λk _ _=>jad (jl rfl (jad (jpk hb ⟨Z,Z⟩ λp _ _=>(Ac (λT N O=>N = R1/\∃k p m2:Int,1<=k/\k<=36/\0<=p/\p<=9/\m'<=m2/\m2<=m' + 3/\O = A ++ (rb,rdO v m2) :: (b,C 24 (eCf c)) :: F/\T = [Pt rb,I n,Pt b,j,I k,I p]) (λK5 W=>?_) ?_))))
 .refine jpk hb ⟨Z,Z⟩ λz _ _=>jeq (jif (λ_=>jl rfl (HV ⟨Z,Z⟩ ?_)) (λ_=>?_))<;>refine Al A (G:=(rb,rdO v (m' + 1 + 1 + 1)) :: (b,C 24 (eCf c)) :: F) ?_
  .exact W _ _ _ ⟨rfl,_,_,_,Z,Z,Z,Z,Z,Z,rfl,rfl⟩
  .exact W _ _ _ ⟨rfl,_,_,_,Z,Z,Z,Z,Z,Z,rfl,rfl⟩
 rintro e Rx Dx ⟨Q,k,p,m2,k0,k1,p0,p1,q1,q2,hD,he⟩;subst Q;refine z_W ?_;clear hD;refine Ac (λT N O=>N = Rx/\∃(H:List Int) (j:Value) (A:Chs) (m3:Int),l.length<=H.length/\H.length<=l.length + 1/\Sml H/\SO H j A/\m'<=m3/\m3<=m' + 4/\O = A ++ (rb,rdO v m3) :: (b,C 24 (eCf c)) :: F/\T = [Pt rb,I n,Pt b,j,I k,I p]) (λK5 W=>?_) ?_
 .refine jpk hb ⟨Z,Z⟩ λz _ _=>jeq (jif (λ_=>?_) (λ_=>?_))
  .refine jl rfl (jad (jbs rfl rfl λbs=>Gw D Z λv' A' a1=>(W _ _ _ ⟨rfl,_,v',A',_,V,V,hp.snoc Z Z,a1,Z,Z,rfl,rfl⟩)))
  .refine Al A (G:=(rb,rdO v (m2 + 1)) :: (b,C 24 (eCf c)) :: F) (W _ _ _ ⟨rfl,l,j,A,_,Z,Z,hp,D,Z,Z,rfl,rfl⟩)
 clear D;rintro e Ry Dy ⟨Q,H,j,A,m3,q3,q4,a2,D,q5,q6,hD,he⟩;subst Q;refine z_W ?_;clear hD;refine jpk hb ⟨Z,Z⟩ λz _ _=>jeq (jif (λ_=>?_) (λ_=>?_))<;>refine Al A (G:=(rb,rdO v (m3 + 1)) :: (b,C 24 (eCf c)) :: F) ?_
 .refine jcI a5 λK6 b0=>?_
  refine jcI b0 λK7 a3=>?_
  refine jlp (λmm T N O=>N = Ry/\∃(i:Nat) (l3:List Int) (j:Value) (A:Chs),(i:Int)<=2 * k/\l3.length = H.length + i/\Sml l3/\SO l3 j A/\O = A ++ (rb,rdO v (m3 + 1 + i)) :: (b,C 24 (eCf c)) :: F/\T = [Pt rb,I n,Pt b,j,I k,I i]/\mm = 72 - i)
   ⟨rfl,0,H,j,A,Z,Z,a2,D,by rw[show m3 + 1 + ((0:Nat):Int) = m3 + 1 from Z],rfl,rfl⟩ ?_
  clear D;rintro mm e Rz Dz K8 ⟨Q,i,l3,j,A,i0,i1,a0,D,hD,he,a6⟩ a4;subst Q;refine z_W ?_;clear hD;refine HV ⟨Z,Z⟩ (jlt (jif (λh=>?_) (λh=>?_)))
  .have h:=z_f h;refine jl rfl (jad (jpk hb ⟨Z,Z⟩ λy _ _=>jbs rfl rfl λbs=>Gw D Z λv' A' a1=>jad (a4 (72 - (i + 1)) _ _ _ Z ⟨rfl,i + 1,_,v',A',Z,by simp;omega,a0.snoc Z Z,a1,by rw[show m3 + 1 + ((i + 1:Nat):Int) = m3 + 1 + i + 1 from Z],rfl,rfl⟩)))
  .have h:=z_g h;exact a3 _ _ _ ⟨rfl,l3,j,A,_,Z,Z,a0,D,Z,Z,rfl,rfl⟩
 .refine jcI a5 λK7 a3=>?_
  refine jlp (λmm T N O=>N = Ry/\∃(i:Nat) (l3:List Int) (j:Value) (A:Chs),(i:Int)<=k/\l3.length = H.length + i/\Sml l3/\SO l3 j A/\O = A ++ (rb,rdO v (m3 + 1)) :: (b,C 24 (eCf c)) :: F/\T = [Pt rb,I n,Pt b,j,I k,I p,I i]/\mm = 72 - i)
   ⟨rfl,0,H,j,A,Z,Z,a2,D,rfl,rfl,rfl⟩ ?_
  clear D;rintro mm e Rz Dz K8 ⟨Q,i,l3,j,A,i0,i1,a0,D,hD,he,a6⟩ a4;subst Q;refine z_W ?_;clear hD;refine jlt (jif (λh=>?_) (λh=>?_))
  .have h:=z_f h;refine jbs rfl rfl λbs=>Gw D Z λv' A' a1=>jad (a4 (72 - (i + 1)) _ _ _ Z ⟨rfl,i + 1,_,v',A',Z,by simp;omega,a0.snoc Z Z,a1,rfl,rfl,rfl⟩)
  .have h:=z_g h;exact a3 _ _ _ ⟨rfl,l3,j,A,_,Z,Z,a0,D,Z,Z,rfl,rfl⟩
end draws
end Go.Lf
end
section
namespace Go.Lf
open Go Sm
@[reducible] def FoD (rb b p:Nat) (v:Value) (m:Int) (A F:Chs) (S:Sim) (g:Img) (c:Cfg):Chs:=(rb,rdO v m) :: (A ++ (Ag p S g ++ (b,C 24 (eCf c)) :: F))
def FoC (rb b p:Nat) (v ov:Value) (m' q k:Int) (n:Nat) (A F:Chs) (S:Sim) (g:Img) (c:Cfg) (R:RM) (vs:List Value) (R' : RM) (D' : Chs):Prop:=
 R' = R/\(∃m2,m'<=m2/\m2<=m' + 2/\D' = FoD rb b p v m2 A F S g c)/\∃x u w,GP x u w/\vs = [Pt rb,I n,Pt b,ov,Pt p,I q,I k,x,u]
def FoQ (rb b p:Nat) (v ov:Value) (m' : Int) (n:Nat) (A F:Chs) (S:Sim) (g:Img) (c:Cfg) (R:RM) (vs:List Value) (R' : RM) (D' : Chs):Prop:=
 R' = R/\∃q k m2:Int,0<=q/\q<=9/\1<=k/\k<=9/\m'<=m2/\m2<=m' + 15/\D' = FoD rb b p v m2 A F S g c/\vs = [Pt rb,I n,Pt b,ov,Pt p,I q,I k]
section draws
variable {R:RM} {rb:Nat} {v:Value} {m:Int}
theorem Tj {c:Cfg} {n:Nat} {pv:Value} {AZ:List (List Sm.Op)} (hc:Bg c = true) (b6:(AZ.length:Int) = c.AB) (b0:∀p∈AZ,p.length<=40) (hp:FI R pv AZ) (hn:n<=2000) (hb:Byt R v) (hm:0<=m/\m < 200000000) :
  Dr JA [Pt rb,.agg #[I c.AH,I c.AB,I c.AU],pv,I n] R rb v m 500000 (λx Q=>∃l:List Int,l.length = n/\Sml l/\Ay Q x l):=by
 refine Pe λF=>?_
 refine z_4 ?_;have d1:Cy c AZ [] = true:=by
  unfold Cy;simp only[z_b,z_d,df];exact⟨⟨⟨hc,b6⟩,V⟩,b0⟩
 obtain⟨g0,i0,B0⟩:=ME hc b6 b0;have c7:=hc;simp only[Bg,z_b,z_d] at hc;refine ja λb=>jla (l:=eCf c) (by exact z_n 3) rfl (jro (O8 hp (picks:=[]) (.inl ⟨rfl,rfl,rfl⟩)) ?_)
 rw[d1];refine CQ (jla (by exact z_n 3) rfl ?_);refine jc (OJ c7 hp) ?_;rintro _ R1 _ c4 ⟨p,g,rfl,rfl,ok⟩;refine B8 (by
  show (Ag p (Sm.start c AZ) g ++ ((b,C 24 (eCf c)) :: (rb,rdO v m) :: F)).Perm ((rb,rdO v m) :: (Ag p (Sm.start c AZ) g ++ (b,C 24 (eCf c)) :: F))
  exact ((fF _ _ _).append_left _).trans dw) ?_
 refine Ac (λvs Q D'=>R.le Q/\∃(S:Sim) (g:Img) (l:List Int) (G:Value) (A:Chs) (m' : Int),n<=l.length/\Sml l/\SO l G A/\m<=m'/\m'<=m + 500000/\D' = FoD rb b p v m' A F S g c/\vs = [I n,G]) (λK hK=>?_) ?_;rotate_left
 .rintro e R1 D1 ⟨hR,S,g,l,G,A,m',hl,hp,so,h1,h2,hD,he⟩;refine z_W ?_;clear hD;refine B8 dw.symm (Dv so λR2 c5 hi=>XK hi Z Z λv' b7=>FZ m' (hR.trans c5) ⟨l.take n,by rw[dU];omega,λa O=>hp a (eJ O),by rw[dG] at b7;exact b7⟩ h1 h2)
 refine jcI hK λK2 b9=>?_
 refine jlp (λmm vs Q D'=>R.le Q/\∃(S:Sim) (g:Img) (gh:Gh) (l:List Int) (G:Value) (A:Chs) (m' : Int),IG AZ S gh/\Bd (5 * l.length) S/\Ok Q S g/\l.length<=2100/\Sml l/\SO l G A/\m<=m'/\m'<=m + 20 * l.length/\D' = FoD rb b p v m' A F S g c/\vs = [Pt rb,I n,Pt b,G,Pt p]/\mm = 2100 - l.length)
  ⟨c4,Sm.start c AZ,g,g0,[],SN,[],m,i0,B0,ok,δ,(λp hp=>by cases hp),.inl ⟨rfl,rfl,rfl⟩,Z,V,rfl,rfl,rfl⟩ ?_
 clear i0 B0 ok;rintro mm e R2 D1 K3 ⟨hR,S,g,gh,l,G,A,m',i0,B0,ok,hl,hs,so,h1,h2,hD,he,c8⟩ b1;refine z_W ?_;clear hD;have W:=hb.le hR;refine Bf so.sln (jlt (jif (λh=>?_) (λh=>?_)));rotate_left
 .have h:=z_g h;exact b9 _ _ _ ⟨hR,S,g,l,G,A,m',Z,hs,so,h1,Z,rfl,rfl⟩
 have h:=z_f h;refine Ac (λvs Q D'=>R2.le Q/\∃(S:Sim) (g:Img) (gh:Gh) (T:List Int) (G:Value) (A:Chs) (N:Int),IG AZ S gh/\Bd (5 * T.length) S/\Ok Q S g/\l.length < T.length/\T.length<=l.length + 9/\Sml T/\SO T G A/\m'<=N/\N<=m' + 15/\D' = FoD rb b p v N A F S g c/\vs = [Pt rb,I n,Pt b,G,Pt p]) (λK4 b2=>?_) ?_;rotate_left
 .rintro e Rx Dx ⟨D,S,g,gh,T,G,A,N,i0,B0,ok,q1,q2,c9,d4,q3,q4,hD,he⟩;refine z_W ?_;clear hD;exact b1 (2100 - T.length) _ _ _ Z ⟨hR.trans D,S,g,gh,T,G,A,N,i0,B0,ok,Z,c9,d4,Z,Z,rfl,rfl,rfl⟩
 refine jl rfl (jad (jpk W ⟨Z,Z⟩ λq0 _ _=>(Ac (FoQ rb b p v G m' n A F S g c R2) (λK5 b3=>?_) ?_)))
 .refine jcI b3 λK6 b4=>?_
  have a0:∀q k N:Int,0<=q->q<=9->1<=k->k<=9->m'<=N->N<=m' + 15->J R2 (FoD rb b p v N A F S g c) (K6 [Pt rb,I n,Pt b,G,Pt p,I q,I k]):=λq k N a1 a2 a3 a4 a5 a6=>b4 _ _ _ ⟨rfl,q,k,N,a1,a2,a3,a4,a5,a6,rfl,rfl⟩
  clear b1 b2 b3 b4;have H:∀(m0:Int) (K:List Value->M),(∀vs Q D',FoC rb b p v G m0 q0 1 n A F S g c R2 vs Q D'->J Q D' (K vs))->∀N,m0<=N->N<=m0 + 2->∀x u w,GP x u w->J R2 (FoD rb b p v N A F S g c) (K [Pt rb,I n,Pt b,G,Pt p,I q0,I 1,x,u]):=λm0 K hK N a1 a2 x u w O=>hK _ _ _ ⟨rfl,⟨N,a1,a2,rfl⟩,x,u,w,O,rfl⟩
  refine Ac (FoC rb b p v G (m' + 1) q0 1 n A F S g c R2) (λK7 j=>?_) ?_
  .refine jl rfl (jeq (Dl (λh=>jl rfl ?_) (λh=>?_)))
   .exact H _ _ j _ Z Z _ _ _ (h▸Bh)
   .exact H _ _ j _ Z Z _ _ _ (h▸By)
  rintro e Rx Dx ⟨D,⟨N,a1,a2,hD⟩,x,u,w,O,he⟩;subst D;refine z_W ?_;clear hD;refine Ac (FoC rb b p v G N q0 1 n A F S g c Rx) (λK7 j=>?_) ?_
  .rw[O];refine Dl (λh=>jl rfl ?_) (λh=>?_)
   .exact H _ _ j _ Z Z _ _ _ (h▸Bh)
   .exact H _ _ j _ Z Z _ _ _ (h▸By)
  clear O;rintro e Ry Dx ⟨D,⟨m3,a3,a4,hD⟩,x,u,w,O,he⟩;subst D;refine z_W ?_;clear hD;refine Ac (FoC rb b p v G m3 q0 1 n A F S g c Ry) (λK7 j=>?_) ?_
  .rw[O];refine Dl (λh=>jpk W ⟨Z,Z⟩ λy _ _=>jeq ?_) (λh=>?_)
   .exact H _ _ j _ Z Z _ _ _ (h▸Bh)
   .exact H _ _ j _ Z Z _ _ _ (h▸By)
  clear O;rintro e Rx Dx ⟨D,⟨m4,a5,a6,hD⟩,x,u,w,O,he⟩;subst D;refine z_W ?_;clear hD;rw[O];refine jif (λh=>jl rfl (jad ?_)) (λh=>?_)
  .exact a0 _ _ _ Z Z Z Z Z Z
  clear O;refine Ac (FoC rb b p v G m4 q0 1 n A F S g c Rx) (λK7 j=>?_) ?_
  .refine jl rfl (jeq (Dl (λh=>jl rfl ?_) (λh=>?_)))
   .exact H _ _ j _ Z Z _ _ _ (h▸Bh)
   .exact H _ _ j _ Z Z _ _ _ (h▸By)
  rintro e Ry Dx ⟨D,⟨m5,a7,a8,hD⟩,x,u,w,O,he⟩;subst D;refine z_W ?_;clear hD;rw[O];refine jif (λh=>jpk W ⟨Z,Z⟩ λy _ _=>jad ?_) (λh=>?_)
  .exact a0 _ _ _ Z Z Z Z Z Z
  clear O;refine Ac (FoC rb b p v G m5 q0 1 n A F S g c Ry) (λK7 j=>?_) ?_
  .refine jl rfl (jeq (Dl (λh=>jpk W ⟨Z,Z⟩ λy _ _=>jgr ?_) (λh=>?_)))
   .exact H _ _ j _ Z Z _ _ _ (h▸Bh)
   .exact H _ _ j _ Z Z _ _ _ (h▸By)
  rintro e Rx Dx ⟨D,⟨m6,a9,e1,hD⟩,x,u,w,O,he⟩;subst D;refine z_W ?_;clear hD;rw[O];refine jif (λh=>jl rfl (jpk W ⟨Z,Z⟩ λy _ _=>jad ?_)) (λh=>?_)
  .exact a0 _ _ _ Z Z Z Z Z Z
  clear O;refine Ac (FoC rb b p v G m6 q0 1 n A F S g c Rx) (λK7 j=>?_) ?_
  .refine jl rfl (Dl (λh=>jpk W ⟨Z,Z⟩ λy _ _=>jeq ?_) (λh=>?_))
   .exact H _ _ j _ Z Z _ _ _ (h▸Bh)
   .exact H _ _ j _ Z Z _ _ _ (h▸By)
  rintro e Ry Dx ⟨D,⟨m7,e2,e3,hD⟩,x,u,w,O,he⟩;subst D;refine z_W ?_;clear hD;rw[O];refine jif (λh=>jl rfl ?_) (λh=>?_)
  .exact a0 _ _ _ Z Z Z Z Z Z
  .exact a0 _ _ _ Z Z Z Z Z Z
 rintro e Rx Dx ⟨D,q,k,N,q1,q2,q3,q4,q5,q6,hD,he⟩;subst D;refine z_W ?_;clear hD;refine jcI b2 λK7 j=>?_
 refine jlp (λmm vs Q D'=>Rx.le Q/\∃(i:Nat) (S:Sim) (g:Img) (gh:Gh) (T:List Int) (G:Value) (A:Chs),(i:Int)<=k/\IG AZ S gh/\Bd (5 * T.length) S/\Ok Q S g/\T.length = l.length + i/\Sml T/\SO T G A/\D' = FoD rb b p v N A F S g c/\vs = [Pt rb,I n,Pt b,G,Pt p,I q,I k,I i]/\mm = 9 - i)
  ⟨RM.le.refl _,0,S,g,gh,l,G,A,Z,i0,B0,ok,Z,hs,so,rfl,rfl,rfl⟩ ?_
 clear i0 B0 ok so hs;rintro mm e Ry Dy K8 ⟨b5,i,S,g,gh,T,G,A,hi,i0,B0,ok,e4,hs,so,hD,he,c8⟩ c0;refine z_W ?_;clear hD;refine jlt (jif (λh=>?_) (λh=>?_));rotate_left
 .have h:=z_g h;exact j _ _ _ ⟨b5,S,g,gh,T,G,A,N,i0,B0,ok,Z,Z,hs,so,Z,Z,rfl,rfl⟩
 have h:=z_f h;obtain⟨S2,b8,i2,B2,-,ht⟩:=YV (a:=q) i0 B0 Z ⟨Z,Z⟩;refine jcS (ht _ _ ok) λ_ R3 g3 c6 _ d2=>(B8 (dw.trans ((fV _ _ _).cons _)) (jbs rfl rfl λbs=>Gw so Z λv' A' d3=>jad (B8 dw (c0 (9 - (i + 1)) _ _ _ Z ⟨b5.trans c6,i + 1,S2,g3,b8,_,v',A',Z,i2,?_,d2,by simp;omega,hs.snoc Z Z,d3,rfl,rfl,rfl⟩))))
 rw[dK,di,Nat.mul_add];exact B2
end draws
section draws
variable {R:RM} {rb:Nat} {v:Value} {m:Int}
def al (x:Value) (R:RM):Prop:=∃(c:Cfg) (AZ:List (List Sm.Op)) (picks:List Int) (pv kv:Value),x = .tuple #[.agg #[I c.AH,I c.AB,I c.AU],pv,kv]/\(Cy c AZ picks = true/\∀p∈AZ,Vs p)/\Sml picks/\FI R pv AZ/\Ay R kv picks
theorem QH {c:Cfg} {AZ:List (List Sm.Op)} {picks:List Int} (hc:Bg c = true) (hl:(AZ.length:Int) = c.AB) (x:∀p∈AZ,p.length<=40) (j:picks.length<=4000):Cy c AZ picks = true:=by
 unfold Cy;simp only[z_b,z_d,df];exact⟨⟨⟨hc,hl⟩,j⟩,x⟩
theorem FI.sl {v:Value} {l:List (List Sm.Op)} (H:FI R v l):∃a c,v = .slice a l.length c:=by
 obtain⟨j,h,_⟩:=H;exact h.sl
theorem Va (hb:Byt R v) (hm:0<=m/\m < 150000000):Dr Kd [Pt rb] R rb v m 1000000 al:=by
 refine Q8 λF=>?_
 refine z_1 ?_;refine ja λb1=>jpk hb ⟨Z,Z⟩ λy1 _ _=>jad (jpk hb ⟨Z,Z⟩ λy2 _ _=>jad (jbs rfl rfl λb6=>jpk hb ⟨Z,Z⟩ λy3 _ _=>jia Z Z ?_))
 have h3:=XD (l:=[32,48,100,16]) Z (by show _ < (4:Int);omega);refine jl (BG [32,48,100,16] Z (by show _ < (4:Int);omega)) ?_;generalize sel [32,48,100,16] y3 = y at h3;simp only[dX,List.not_mem_nil,or_false] at h3;obtain⟨c,T⟩:∃c:Cfg,c = ⟨5 + y1,1 + y2,y⟩:=⟨_,rfl⟩;have hc:Bg c = true:=by
  rw[T];simp only[Bg,z_b,z_d];omega
 refine jbd (cs:=eCf c) rfl (by rw[T];rfl) (ja λb=>js rfl rfl (by exact z_n 3) rfl ?_);obtain⟨n,hn⟩:∃n:Nat,c.AB = n:=⟨c.AB.toNat,by rw[T];show 1 + y2 = ((1 + y2).toNat:Int);omega⟩;have a4:=hc;simp only[Bg,z_b,z_d] at a4;refine jk3 (F:=F) rb b b1 (Ac (λvs W D'=>R.le W/\∃(l:List (List Sm.Op)) (rows:List (List Value)) (H:Value) (A:Chs) (m' : Int),l.length = n/\(∀p∈l,p.length<=40/\Vs p)/\PrW W rows l/\SW 79 1 rows H A/\m<=m'/\m'<=m + 10000/\D' = A ++ (rb,rdO v m') :: (b,C 24 (eCf c)) :: (b1,C 24 (cl z24)) :: F/\vs = [Pt rb,Pt b1,Pt b,H]) (λK hK=>?_) ?_)
 .refine jcI hK λK2 a2=>?_
  refine jlp (λmm vs W D'=>R.le W/\∃(i:Nat) (l:List (List Sm.Op)) (rows:List (List Value)) (H:Value) (A:Chs) (m' : Int),i<=n/\l.length = i/\(∀p∈l,p.length<=40/\Vs p)/\PrW W rows l/\SW 79 1 rows H A/\m<=m'/\m'<=m + 10 + 1100 * i/\D' = A ++ (rb,rdO v m') :: (b,C 24 (eCf c)) :: (b1,C 24 (cl z24)) :: F/\vs = [Pt rb,Pt b1,Pt b,H,I i]/\mm = n - i)
   (n:=n) ⟨RM.le.refl R,0,[],[],SN,[],m + 1 + 1 + 1,Z,rfl,(λp O=>by cases O),Rw.nil,.inl ⟨rfl,rfl,rfl⟩,Z,Z,rfl,rfl,Z⟩ ?_
  rintro mm e R1 D1 K3 ⟨Q,i,l,rows,H,A,m',hi,hl,O,j,so,h1,h2,hD,he,a7⟩ a3;refine z_W ?_;refine jl rfl (jlt (jif (λh=>?_) (λh=>?_)));rotate_left
  .have h:=z_g h;exact a2 _ _ _ ⟨Q,l,rows,H,A,m',Z,O,j,so,h1,Z,rfl,rfl⟩
  have h:=z_f h;refine jpk (hb.le Q) ⟨Z,Z⟩ λz _ _=>jad ?_
  obtain⟨k,hk⟩:∃k:Nat,20 + z = k:=⟨(20 + z).toNat,Z⟩;rw[hk];refine jdr (SE Z (hb.le Q) ⟨Z,Z⟩) ?_;rintro x R2 m2 D ⟨q,⟨hq,a5⟩,N⟩ h5 h6;obtain⟨xa,xc,hx⟩:=Fz.sl N;subst hx;refine jbs rfl rfl λbs=>?_
  have a8:=j.1;refine Qm [[.slice xa q.length xc]] so rfl j.len (λr hr=>by rw[dZ.1 hr];rfl) rfl rfl rfl δ (by rw[di];omega) λv' A' a6=>(jad (a3 (n - (i + 1)) _ _ _ Z ⟨Q.trans D,i + 1,l ++ [q],_,v',A',m2,Z,by rw[dK,hl];rfl,λp G=>?_,(j.le D).app (Rw.one ⟨_,rfl,N⟩),a6,Z,Z,rfl,rfl,rfl⟩))
  rcases dg.1 G with G | G
  .exact O p G
  .rw[dZ.1 G];exact⟨hq,a5⟩
 rintro e R1 D1 ⟨Q,l,rows,H,A,m',hl,O,j,so,h1,h2,hD,he⟩;refine z_W ?_;refine W2 so j λR2 D ho=>?_
 have a1:=hb.le (Q.trans D);refine jla (by exact z_n 3) rfl (jla (by exact z_n 3) rfl (jpk a1 ⟨Z,Z⟩ λz _ _=>jad (Ak (jla (by exact z_n 3) rfl jev) (Ak (jla (by exact z_n 3) rfl jev) ?_))));obtain⟨k,hk⟩:∃k:Nat,150 + z = k:=⟨(150 + z).toNat,Z⟩;rw[hk];refine jdr (Tj hc Z (λp h=>(O p h).1) ho Z a1 ⟨Z,Z⟩) ?_;rintro x R3 m3 a0 ⟨q,hq,hs,hi⟩ h5 h6;refine Ak (jla (by exact z_n 3) rfl jev) (js rfl rfl (by exact z_n 3) rfl (jla (by exact z_n 3) rfl (FZ m3 ((Q.trans D).trans a0) ⟨c,l,q,H,x,rfl,⟨QH hc Z (λp h=>(O p h).1) Z,λp h=>(O p h).2⟩,hs,ho.le a0,hi⟩ Z Z)))
end draws
structure StB (r:Nat) (s:Sm.Ah):Prop where
 wr:∀x∈s.AC,Rn x
 wl:s.AC.length = 16 * s.AA.length
 t0:2<=s.AA.length
 t1:s.AA.length<=12
 tp:∀x∈s.AA,-100 * (r:Int)<=x.top/\x.top<=100 * r
 n0:1<=s.AB.length
 n1:s.AB.length<=3
 rl:∀t∈s.AB,t.AD.length<=r
 pl:s.AJ.length<=8
 pv:∀a∈s.AJ,0<=a/\a<=1000
 ol:s.old.length<=100000
 ml:s.AM.length = s.AC.length
 cy:0<=s.BE/\s.BE<=100000
 fu:0<=s.BK/\s.BK<=10000 * r
theorem YL {x:Cfg} {AZ:List (List Sm.Op)} {picks:List Int} {S' : Sim} (j:Cy x AZ picks = true) (N:∀p∈AZ,Vs p) (h:Sim.picks picks (Sm.start x AZ) = some S'):RS S':=by
 obtain⟨G,H,O,K⟩:=Kq j;obtain⟨D,A,y⟩:=ME G H K;exact Qe picks 0 _ S' D Z A y (Wr N) h
theorem aN {N:List (List Sm.Op)} {S:Sim} {A:Gh} (i0:IG N S A) (B:Bd 20000 S) (W:RS S):StB 8 S.view:=by
 have T:=i0.sh.g.ok;have n0:=T.n0;have n1:=T.n1;have hl:=i0.sh.g.len;have hl:(S.AC.length:Int) = 16 * S.AA.length:=hl;have wl:=i0.wl;refine⟨W.w,by show S.AC.length = 16 * S.AA.length;omega,n0,n1,λx y=>?_,by show 1<=(S.th.map _).length;rw[dN];exact i0.n0,by show (S.th.map _).length<=3;rw[dN];exact i0.n1,λt ht=>?_,B.pn,λa R=>?_,by have:=B.old;show S.old.length<=_;omega,i0.sh.ml,⟨B.cy.1,by have:=B.cy.2;show S.BE<=_;omega⟩,⟨B.fu.1,by have:=B.fu.2;show S.BK<=_;omega⟩⟩
 .have y:x∈S.AA:=y;have n1:S.AA.length<=12:=n1;obtain⟨k,H,rfl⟩:=dm y;by_cases h0:k = 0
  .subst h0;have:=T.e;rw[show (0:Int) = ((0:Nat):Int) from rfl] at this;have e:=(Eh (t:=S.AA) H).symm.trans this;rw[e];decide
  .have r:=T.row k Z (by show (k:Int) < S.AA.length;omega);have e:=Eh (t:=S.AA) H;have t0:=r.t0;have t1:=r.t1;have O : rv (xof S A).t k = S.AA[k]:=e;rw[O] at t0 t1;omega
 .obtain⟨K,j,rfl⟩:=dc.1 ht;have:=i0.AD K j;show K.AD.length<=8;omega
 .have Q:=i0.sh.pl a R;obtain⟨h4,_,_,_,_,D,G,_⟩:=i0.sh.g.inn (i0.sh.lb a Q.1);have D:a + sz S.AC a<=S.AC.length:=D;have G:2<=sz S.AC a:=G;omega
theorem StB.mono2 {s:Sm.Ah} (h:StB 9 s):StB 10 s:={ h with rl:=λt j=>(by have:=h.rl t j;omega),tp:=λx y=>(by have:=h.tp x y;omega),fu:=(by have:=h.fu;omega) }
theorem StB.mono {s:Sm.Ah} (h:StB 8 s):StB 9 s:={ h with fu:=(by have:=h.fu;omega),rl:=λt j=>(by have:=h.rl t j;omega),tp:=λx y=>(by have:=h.tp x y;omega) }
theorem StB.row {s:Sm.Ah} (h:StB 8 s) (k:Nat) {x:Rg} (h0:-900<=x.top) (A:x.top<=900):StB 9 { s with AA:=s.AA.set k x }:=
 { h.mono with wl:=by simpa using h.wl,t0:=by simpa using h.t0,t1:=by simpa using h.t1,tp:=λy j=>(by
   rcases fO j with j | j
   .exact h.mono.tp y j
   .subst j;omega) }
def StQ (rl rb b16 b1:Nat) (v:Value) (m c:Int) (F:Chs) (R:RM) (D:Chs):Prop:=
 ∃(s:Sm.Ah) (rows:List (List Value)) (thv mv ov pv:Value) (A:Chs) (wb nw wc:Nat) (wsp:List Value) (tb nt tc:Nat) (tsp:List Value) (m' : Int),
  StB rl s/\s.AC.length = nw/\nw<=wc/\s.AA.length = nt/\nt<=tc/\Rw (Cd R) rows s.AB/\SW 117 4 rows thv A/\Bls R mv s.AM/\Ay R ov s.old/\Ay R pv s.AJ/\m<=m'/\m'<=m + c/\
  D = (rb,rdO v m') :: (b16,C AW (eSt s (S0 wb nw wc) (S0 tb nt tc) mv thv ov pv)) :: (A ++ (wb,C Ab (s.AC.map I ++ wsp)) :: (tb,C AO (Ad eRg s.AA ++ tsp)) :: (b1,C AW (cl z50)) :: F)
def DSt (R:RM) (rb:Nat) (v:Value) (m c:Int) (x:Value) (R' : RM) (A:Chs):Prop:=
 ∃(s:Sm.Ah) (wv mv thv ov pv:Value) (tb tc:Nat) (tsp:List Value) (m' : Int),StB 9 s/\Ay R' wv s.AC/\Bls R' mv s.AM/\Ths R' thv s.AB/\Ay R' ov s.old/\Ay R' pv s.AJ/\s.AA.length<=tc/\m<=m'/\m'<=m + c/\
  x = .agg (eSt s wv (S0 tb s.AA.length tc) mv thv ov pv).toArray/\A = [(rb,rdO v m'),(tb,C AO (Ad eRg s.AA ++ tsp))]
theorem Ug {s:Sm.Ah} {mv A pv j:Value} {x:Option Addr} {y:Option Addr} {l q l2 q2:Nat} (D:flat mv = true) (G:flat j = true) (H:flat A = true) (K:flat pv = true):Bz (eSt s (.slice x l q) (.slice y l2 q2) mv j A pv) = true:=by
 show (true && (true && (flat mv && (true && (true && (true && (true && (true && (flat j && (flat A && (flat pv && (true && (true && true))))))))))))) = true;rw[D,G,H,K];rfl
theorem Er {R:RM} {D E:Chs} {o:Obj} {m:M} (b:Nat) [t:Tk D b o E] (H:J R ((b,o) :: E) m):J R D m:=λh j=>H h (j.perm t.p)
theorem SW.flat {t w:Nat} {rows:List (List Value)} {v:Value} {A:Chs} (h:SW t w rows v A):flat v = true:=by
 obtain⟨a,c,e⟩:=h.sl;rw[e];rfl
theorem cT {R:RM} {X D E:Chs} {m:M} (j:D.Perm (X ++ E)) (H:J R E m):J R D m:=λh x=>H h ((x.perm j).drop)
theorem th0 {R:RM} {rows:List (List Value)} {l:List Th} {x:Value} {A:Chs} (j:Rw (Cd R) rows l) (T:SW 117 4 rows x A) (Q:1<=l.length):∃t y rv rr b c sp,l = t :: y/\rows = [rv,I t.next,.bool t.busy,I t.Am] :: rr/\Ay R rv t.AD/\Rw (Cd R) rr y/\
  rows.length<=c/\sp.length = (c - rows.length) * 4/\x = S0 b rows.length c/\A = [(b,C 117 (rows.flatten ++ sp))]:=by
 cases l with
 | nil=>simp at Q
 | cons t y=>
  cases rows with
  | nil=>have:=j.1;simp at this
  | cons r0 rr=>
   obtain⟨rv,e,D⟩:=j.2 0 V V;simp only[List.getElem_cons_zero] at e D;subst e;rcases T with ⟨h,_,_⟩ | ⟨b,c,sp,H,K,N,O⟩
   .cases h
   .refine⟨t,y,rv,rr,b,c,sp,rfl,rfl,D,⟨by have:=j.1;simpa using this,λi h G=>?_⟩,H,K,N,O⟩;have:=j.2 (i + 1) (by simpa using h) (by simpa using G);simpa using this
section draws
variable {R:RM} {rb:Nat} {v:Value} {m:Int}
theorem SH (hb:Byt R v) (hm:0<=m/\m < 100000000):Fn P J5 [Pt rb] R [(rb,rdO v m)] (DSt R rb v m 2000000):=by
 refine P8 λF=>?_
 refine z_1 ?_;refine ja λb1=>jdr (Q3 hb ⟨Z,Z⟩) ?_
 rintro _ R1 m1 - ⟨h5,c,rfl,hc⟩ g1 g2;subst h5;refine ja λb3=>jS (eCf c) (jla (l:=eCf c) (by exact z_n 3) rfl ?_)
 refine jdr (SA hc hb ⟨Z,Z⟩) ?_;rintro pv R2 m2 f4 ⟨AZ,b9,b8,hp⟩ g3 g4;have c7:=hb.le f4;refine jla (l:=eCf c) (by exact z_n 3) rfl (jpk c7 ⟨Z,Z⟩ λz _ _=>jad (Ak (jla (l:=eCf c) (by exact z_n 3) rfl jev) ?_));obtain⟨n,hn⟩:∃n:Nat,40 + z = n:=⟨(40 + z).toNat,Z⟩;rw[hn];refine jdr (TF hc (n:=n) Z c7 ⟨Z,Z⟩) ?_;rintro kv R3 m3 e7 ⟨picks,O,f7,hk⟩ g5 g6;have e9:=c7.le e7;refine jk3 (F:=F) rb b3 b1 ?_;refine Ac (λvs R' D'=>R3.le R'/\∃(c:Cfg) (AZ:List (List Sm.Op)) (picks:List Int) (pv kv:Value) (m4:Int),(Cy c AZ picks = true/\∀p∈AZ,Vs p)/\Sml picks/\FI R' pv AZ/\Ay R' kv picks/\m<=m4/\m4<=m + 1600000/\D' = (rb,rdO v m4) :: (b3,C 24 (eCf c)) :: (b1,C AW (cl z50)) :: F/\vs = [Pt rb,Pt b1,Pt b3,pv,kv]) (λK hK=>?_) ?_
 .refine jpk e9 ⟨Z,Z⟩ λy _ _=>jgr (jif (λ_=>?_) (λ_=>?_))
  .refine jdr (Va e9 ⟨Z,Z⟩) ?_;rintro _ R4 m4 e8 ⟨c',d1,c9,j2,j1,rfl,c8,i8,i6,i5⟩ g7 g8;refine jex rfl (jex rfl (jex rfl (jS (eCf c') ?_)));exact hK _ _ _ ⟨e8,c',d1,c9,j2,j1,m4,c8,i8,i6,i5,Z,Z,rfl,rfl⟩
  .exact hK _ _ _ ⟨RM.le.refl _,c,AZ,picks,pv,kv,_,⟨QH hc b9 (λp h=>(b8 p h).1) Z,λp h=>(b8 p h).2⟩,f7,hp.le e7,hk,Z,Z,rfl,rfl⟩
 have f2:=f4.trans e7;clear hp hk f7 hc b9 b8 O c7 hn;rintro e R4 D4 ⟨e8,c,AZ,picks,pv,kv,m4,⟨c8,i9⟩,hs,hp,hk,g7,g8,hD,he⟩;refine z_W ?_;clear hD;obtain⟨S,gh,i0,B0,i7,b9⟩:=Ze c8 λa ha=>⟨by have:=(hs a ha).1;omega,by have:=(hs a ha).2;omega⟩
 refine jla (l:=eCf c) (by exact z_n 3) rfl (jc (A:=[]) (b9 R4 pv kv hp hk) ?_);rintro _ R5 _ h6 ⟨p,g,rows,j,A,ok,D,so,rfl,rfl⟩;have f6:=aN i0 B0 (YL c8 i9 i7);refine jex rfl (jex rfl ?_);unfold Ag;refine cT (X:=(p,C CG (Ch S g)) :: (g.hb,C Af (Ez S.th g.rv ++ g.hsp)) :: evD S g) (E:=(A ++ [(g.wb,C Ab (S.AC.map I ++ g.wsp)),(g.tb,C AO (Ad eRg S.AA ++ g.tsp)),(g.mb,C Az (S.AM.map Value.bool ++ g.msp))]) ++ ((rb,rdO v m4) :: (b3,C 24 (eCf c)) :: (b1,C AW (cl z50)) :: F)) ?_ ?_
 .refine (gF _ dw).trans (fR _ ?_);have:=fV (A ++ [(g.wb,C Ab (S.AC.map I ++ g.wsp)),(g.tb,C AO (Ad eRg S.AA ++ g.tsp)),(g.mb,C Az (S.AM.map Value.bool ++ g.msp))]) ((g.hb,C Af (Ez S.th g.rv ++ g.hsp)) :: evD S g) ((rb,rdO v m4) :: (b3,C 24 (eCf c)) :: (b1,C AW (cl z50)) :: F);simpa using this
 refine B9 (b:=g.mb) λR6 c4 f8=>?_
 have b4:=SK f8 ok.mk_;have d2:=(e8.trans h6).trans c4;have N:=e9.le d2;have W:=ok.old.le c4;have b0:=ok.AJ.le c4;have D:=D.mono λ_ _=>Cd.le c4
 obtain⟨j4,j5,h3⟩:=so.sl;refine ja λH=>js (cs':=eSt S.view (wS S g) (tS S g) (mS S g) j g.old g.AJ) rfl (Ug rfl so.flat (Fz.flat W) (Fz.flat b0)) (by exact z_n 13) rfl ?_
 have h0:StQ 8 rb H b1 v m 1600000 F R6 ((rb,rdO v m4) :: (H,C AW (eSt S.view (wS S g) (tS S g) (mS S g) j g.old g.AJ)) :: (A ++ (g.wb,C Ab (S.AC.map I ++ g.wsp)) :: (g.tb,C AO (Ad eRg S.AA ++ g.tsp)) :: (b1,C AW (cl z50)) :: F)):=
  ⟨S.view,rows,j,mS S g,g.old,g.AJ,A,g.wb,S.AC.length,g.wc,g.wsp,g.tb,S.AA.length,g.tc,g.tsp,m4,f6,rfl,ok.wk,rfl,ok.tk,D,so,b4,W,b0,Z,Z,rfl⟩
 refine Er H (Er rb (Er b3 (BV ?_)));simp only[dS,zc,zl];generalize (rb,rdO v m4) :: (H,C AW (eSt S.view (wS S g) (tS S g) (mS S g) j g.old g.AJ)) :: (A ++ (g.wb,C Ab (S.AC.map I ++ g.wsp)) :: (g.tb,C AO (Ad eRg S.AA ++ g.tsp)) :: (b1,C AW (cl z50)) :: F) = D6 at h0 ⊢;have f3:=f2.trans d2;clear f8 b4 W b0 D so b9 ok f6;refine Ac (λvs R' D'=>R6.le R'/\StQ 9 rb H b1 v m 1600010 F R' D'/\vs = [Pt b1,Pt H]) (λK hK=>?_) ?_;rotate_left
 .rintro e R7 D7 ⟨b7,⟨s,rows,j,mv,ov,pv,A,wb,nw,wc,wsp,tb,nt,tc,tsp,m',G,w1,w2,w3,w4,D,so,b4,W,b0,h1,h2,hD⟩,he⟩;refine z_W ?_;clear hD;subst w1 w3;obtain⟨j4,j5,h3⟩:=so.sl;have i4:=Ug (s:=s) (x:=some ⟨wb,0,none⟩) (y:=some ⟨tb,0,none⟩) (l:=s.AC.length) (q:=wc) (l2:=s.AA.length) (q2:=tc) (Fz.flat b4) so.flat (Fz.flat W) (Fz.flat b0);refine jla (l:=eSt s (S0 wb s.AC.length wc) (S0 tb s.AA.length tc) mv j ov pv) (by exact z_n 13) rfl ?_;refine js (cs':=eSt s (S0 wb s.AC.length wc) (S0 tb s.AA.length tc) mv j ov pv) rfl i4 (by exact z_n 13) rfl ?_;refine jla (l:=eSt s (S0 wb s.AC.length wc) (S0 tb s.AA.length tc) mv j ov pv) (by exact z_n 13) rfl ?_;refine Er H (BV (Er wb (B9 (b:=wb) λR8 c6 j0=>Er rb (B8 dw.symm (jfw so (D.all λ_ _=>Cd.len) λR9 f5 hfz=>?_)))));have T:=c6.trans f5;exact Ao (A:=[(rb,rdO v m'),(tb,C AO (Ad eRg s.AA ++ tsp))]) ((f3.trans b7).trans T) ⟨s,_,mv,j,ov,pv,tb,tc,tsp,m',G,(CO j0 w2).le f5,Fz.le T b4,⟨rows,D.mono λ_ _=>Cd.le T,hfz⟩,W.le T,b0.le T,w4,h1,Z,rfl,rfl⟩
 obtain⟨s,rows,j,mv,ov,pv,A,wb,nw,wc,wsp,tb,nt,tc,tsp,m',G,w1,w2,w3,w4,D,so,b4,W,b0,h1,h2,hD⟩:=h0;rw[hD];clear hD;have wl:=G.wl;have t0:=G.t0;have t1:=G.t1;refine jpk N ⟨Z,Z⟩ λy _ _=>?_
 refine jcI hK λK2 f1=>?_
 have b2:∀(s' : Sm.Ah) (m2:Int) (b6 : Value) (Q : List (List Value)) (A' : Chs) (R' : RM),R6.le R'->StB 9 s'->s'.AC.length = nw->s'.AA.length = nt->s'.AM = s.AM->s'.old = s.old->s'.AJ = s.AJ->Rw (Cd R') Q s'.AB->SW 117 4 Q b6 A'->m<=m2->m2<=m' + 8->
   J R' ((rb,rdO v m2) :: (H,C AW (eSt s' (S0 wb nw wc) (S0 tb nt tc) mv b6 ov pv)) :: (A' ++ (wb,C Ab (s'.AC.map I ++ wsp)) :: (tb,C AO (Ad eRg s'.AA ++ tsp)) :: (b1,C AW (cl z50)) :: F)) (K2 [Pt b1,Pt H]):=λs' m2 b6 Q A' R' a0 a1 a2 a3 a4 a5 a6 a7 a8 a9 j6=>
  f1 _ _ _ ⟨a0,⟨s',Q,b6,mv,ov,pv,A',wb,nw,wc,wsp,tb,nt,tc,tsp,m2,a1,a2,w2,a3,w4,a7,a8,by rw[a4];exact Fz.le a0 b4,by rw[a5];exact W.le a0,by rw[a6];exact b0.le a0,a9,Z,rfl⟩,rfl⟩
 clear hK f1;refine jeq (jif (λ_=>?_) (λ_=>jeq (jif (λ_=>?_) (λ_=>jeq (jif (λ_=>?_) (λ_=>jeq (jif (λ_=>?_) (λ_=>jeq (jif (λ_=>?_) (λ_=>jeq (jif (λ_=>?_) (λ_=>?_))))))))))))
 .refine jl (v:=S0 wb nw wc) rfl (jl (v:=S0 wb nw wc) rfl (jln (jpk N ⟨Z,Z⟩ λi _ _=>Ak (jl (v:=S0 wb nw wc) rfl jev) (jpk N ⟨Z,Z⟩ λx _ _=>jia Z Z (Ak (jl (v:=S0 wb nw wc) rfl jev) ?_)))));refine jsi (l:=s.AC) Z ?_;exact b2 { s with AC:=s.AC.set i.toNat x } _ j rows A R6 (RM.le.refl _) { G.mono with wl:=by simpa using G.wl,ml:=by simpa using G.ml,wr:=λy hy=>(fO hy).elim (G.wr y) λe=>by rw[e];unfold Rn;omega } (by simpa using w1) w3 rfl rfl rfl D so Z Z
 .obtain⟨t,ts,rv,rr,bt,ct,sp,e1,e2,c0,f0,q1,q2,e3,e4⟩:=th0 D so G.n0;subst e2 e3 e4;obtain⟨ra,rc,e5⟩:=c0.sl;subst e5;have h8:=G.rl t (by rw[e1];simp);refine jl (v:=S0 bt _ ct) rfl (jia Z V (jla (l:=[.slice ra t.AD.length rc,I t.next,.bool t.busy,I t.Am]) V rfl ?_));refine ja λd3=>jS [.slice ra t.AD.length rc,I t.next,.bool t.busy,I t.Am] ?_
  refine jl (v:=.slice ra t.AD.length rc) rfl (jl (v:=S0 wb nw wc) rfl (jln ?_));refine jc (A:=[]) (CY c0 Z) ?_;rintro _ R7 _ b7 ⟨b5,c5,h4,h9,g0,rfl,rfl⟩;have h7:=N.le b7;refine Ak (jl (v:=S0 wb nw wc) rfl jev) (jpk h7 ⟨Z,Z⟩ λx _ _=>jbs (cs:=[I x]) rfl rfl λbs=>?_);refine Gw (l:=t.AD) (A:=[(b5,C Ab (t.AD.map I ++ h4))]) (.inr ⟨b5,c5,h4,h9,g0,rfl,rfl⟩) Z λv' A' j3=>Dv j3 λR8 c6 hi=>?_
  obtain⟨xa,xc,e6⟩:=hi.sl;subst e6;refine js (cs':=[.slice xa (t.AD ++ [x]).length xc,I t.next,.bool t.busy,I t.Am]) rfl rfl V rfl ?_;refine jl (v:=S0 bt _ ct) rfl (jla (l:=[.slice xa (t.AD ++ [x]).length xc,I t.next,.bool t.busy,I t.Am]) (by exact z_n 4) rfl (jia Z V ?_));refine js (cs':=([.slice xa (t.AD ++ [x]).length xc,I t.next,.bool t.busy,I t.Am] :: rr).flatten ++ sp) rfl rfl V rfl ?_;refine Er d3 (BV ?_);refine b2 { s with AB:={ t with AD:=t.AD ++ [x] } :: ts } _ (S0 bt _ ct) ([.slice xa (t.AD ++ [x]).length xc,I t.next,.bool t.busy,I t.Am] :: rr) [(bt,C 117 (([.slice xa (t.AD ++ [x]).length xc,I t.next,.bool t.busy,I t.Am] :: rr).flatten ++ sp))] R8 (b7.trans c6) { G.mono with n0:=V,n1:=by have:=G.n1;rw[e1] at this;simpa using this,rl:=λu hu=>?_ } w1 w3 rfl rfl rfl ?_ (.inr ⟨bt,ct,sp,q1,q2,rfl,rfl⟩) Z Z
  .rcases dX.1 hu with hu | hu
   .subst hu;show (t.AD ++ [x]).length<=9;rw[dK];simp;omega
   .exact G.mono.rl u (by rw[e1];exact dh _ hu)
  .exact Rw.app (r1:=[_]) (l1:=[_]) (Rw.one ⟨_,rfl,hi⟩) (f0.mono λ_ _=>Cd.le (b7.trans c6))
 .refine jl (v:=S0 tb nt tc) rfl (jln (jsu (jpk N ⟨Z,Z⟩ λi _ _=>jad ?_)));obtain⟨k,hk⟩:∃k:Nat,1 + i = k:=⟨(1 + i).toNat,Z⟩;rw[hk];have O:k < s.AA.length:=Z
  obtain⟨p0,p1⟩:=G.tp _ (dL O);refine jl (v:=S0 tb nt tc) rfl (C0 Z (Lb O (ja λd4=>jS (eRg s.AA[k]) ?_)));refine jl (v:=I (s.AA[k]).top) rfl (jpk N ⟨Z,Z⟩ λz _ _=>jad (jsu (Ak (jl (v:=I (s.AA[k]).top) rfl jev) ?_)));refine js (cs':=eRg { s.AA[k] with top:=(s.AA[k]).top + z - 1 }) rfl rfl V rfl ?_;refine jl (v:=S0 tb nt tc) rfl (jla (l:=eRg { s.AA[k] with top:=(s.AA[k]).top + z - 1 }) (by exact z_n 5) rfl (C0 Z ?_));refine Gl (x:={ s.AA[k] with top:=(s.AA[k]).top + z - 1 }) O ?_;refine Er d4 (BV ?_);exact b2 { s with AA:=s.AA.set k { s.AA[k] with top:=(s.AA[k]).top + z - 1 } } _ j rows A R6 (RM.le.refl _) (G.row k (by show -900<=(s.AA[k]).top + z - 1;omega) (by show (s.AA[k]).top + z - 1<=900;omega)) w1 (by simpa using w3) rfl rfl rfl D so Z Z
 .refine jbs (cs:=[I (-1),I 4,I 2]) rfl rfl λbt=>jpk N ⟨Z,Z⟩ λz _ _=>jia Z Z (jl (BG [-1,4,2] Z (by show _ < (3:Int);omega)) ?_)
  refine jS (eSt { s with Ae:=sel [-1,4,2] z } (S0 wb nw wc) (S0 tb nt tc) mv j ov pv) (Er bt (BV ?_));exact b2 { s with Ae:=sel [-1,4,2] z } _ j rows A R6 (RM.le.refl _) { G.mono with } w1 w3 rfl rfl rfl D so Z Z
 .obtain⟨t,ts,rv,rr,bt,ct,sp,e1,e2,c0,f0,q1,q2,e3,e4⟩:=th0 D so G.n0;subst e2 e3 e4;obtain⟨ra,rc,e5⟩:=c0.sl;subst e5;refine jl (v:=S0 bt _ ct) rfl (jia Z V (jla (l:=[.slice ra t.AD.length rc,I t.next,.bool t.busy,I t.Am]) V rfl ?_));refine ja λd3=>jS [.slice ra t.AD.length rc,I t.next,.bool t.busy,I t.Am] ?_
  refine jl (v:=.bool t.busy) rfl (js (cs':=[.slice ra t.AD.length rc,I t.next,.bool (!t.busy),I t.Am]) rfl rfl V rfl ?_);refine jl (v:=S0 bt _ ct) rfl (jla (l:=[.slice ra t.AD.length rc,I t.next,.bool (!t.busy),I t.Am]) (by exact z_n 4) rfl (jia Z V ?_));refine js (cs':=([.slice ra t.AD.length rc,I t.next,.bool (!t.busy),I t.Am] :: rr).flatten ++ sp) rfl rfl V rfl ?_;refine Er d3 (BV ?_);refine b2 { s with AB:={ t with busy:=!t.busy } :: ts } _ (S0 bt _ ct) ([.slice ra t.AD.length rc,I t.next,.bool (!t.busy),I t.Am] :: rr) [(bt,C 117 (([.slice ra t.AD.length rc,I t.next,.bool (!t.busy),I t.Am] :: rr).flatten ++ sp))] R6 (RM.le.refl _) { G.mono with n0:=V,n1:=by have:=G.n1;rw[e1] at this;simpa using this,rl:=λu hu=>?_ } w1 w3 rfl rfl rfl ?_ (.inr ⟨bt,ct,sp,q1,q2,rfl,rfl⟩) Z Z
  .rcases dX.1 hu with hu | hu
   .subst hu;exact G.mono.rl t (by rw[e1];simp)
   .exact G.mono.rl u (by rw[e1];exact dh _ hu)
  .exact Rw.app (r1:=[_]) (l1:=[_]) (Rw.one ⟨_,rfl,c0⟩) f0
 .refine jl (v:=S0 tb nt tc) rfl (jln (jsu (jpk N ⟨Z,Z⟩ λi _ _=>jad ?_)));obtain⟨k,hk⟩:∃k:Nat,1 + i = k:=⟨(1 + i).toNat,Z⟩;rw[hk];have O:k < s.AA.length:=Z
  refine jl (v:=S0 tb nt tc) rfl (C0 Z (Lb O (ja λd4=>jS (eRg s.AA[k]) ?_)));refine jpk N ⟨Z,Z⟩ λz _ _=>js (cs':=eRg { s.AA[k] with kind:=z }) rfl rfl V rfl ?_
  refine jl (v:=S0 tb nt tc) rfl (jla (l:=eRg { s.AA[k] with kind:=z }) (by exact z_n 5) rfl (C0 Z ?_));refine Gl (x:={ s.AA[k] with kind:=z }) O ?_;refine Er d4 (BV ?_);obtain⟨p0,p1⟩:=G.tp _ (dL O);exact b2 { s with AA:=s.AA.set k { s.AA[k] with kind:=z } } _ j rows A R6 (RM.le.refl _) (G.row k (by show -900<=(s.AA[k]).top;omega) (by show (s.AA[k]).top<=900;omega)) w1 (by simpa using w3) rfl rfl rfl D so Z Z
 .exact b2 s _ j rows A R6 (RM.le.refl _) G.mono w1 w3 rfl rfl rfl D so Z Z
end draws
section draws
variable {R:RM} {rb:Nat} {v:Value} {m:Int}
end draws
theorem WP (a:Addr) (n c:Nat) (w:World):(Builtin.clear_ #[30] 0 #[.slice (some a) (n + 1) c]).run P w = (do storeCells a (Builtin.zeroCells #[I 0] (n + 1)).toList;pure (.tuple #[]):Sem Value).run P w:=by
 kernel_rfl
theorem bI (x y:Operand) (a:Addr) (n c:Nat) (w:World):(do eqGuard .eql 30 x y (.slice (some a) n c) (SN);binOp .eql 30 (.slice (some a) n c) (SN):Sem Value).run P w = .ok (.bool false) w:=by kernel_rfl
theorem ZZ (x y:Operand) (w:World):(do eqGuard .eql 30 x y (SN) (SN);binOp .eql 30 (SN) (SN):Sem Value).run P w = .ok (.bool true) w:=by kernel_rfl
theorem Yp (a b:Addr) (n c m d:Nat) (w:World):(Builtin.copy_ #[30,30] 3 #[.slice (some a) n c,.slice (some b) m d]).run P w = (do let cells <- loadCells b (Nat.min m n * 1);storeCells a cells.toList;pure (goInt (Nat.min m n)):Sem Value).run P w:=by
 kernel_rfl
theorem Tc (n:Nat):(Builtin.zeroCells #[I 0] n).toList = List.replicate n (I 0):=by
 unfold Builtin.zeroCells;rw[gf];apply fY
 .simp
 .intro i j x;simp[Nat.mod_one]
section rules
variable {R:RM} {D:Chs} {k:Value->M}
theorem jX {s:Sem Value} (H:∀h,St h R D->∀w:World,w.heap = h->∃v j,s.run P w = .ok v j/\BH w j/\k v j.heap):J R D (X P s k):=λh A w G=>by
 obtain⟨v,j,e,x,y⟩:=H h A w G;rw[e];exact⟨x,y⟩
theorem aR {b o n c t:Nat} {cs cs' : List Value} {D' : Chs} (hn:0 < n) [a:At D b (C t cs)] (Q:o + n<=cs.length) (hc:lay cs o (List.replicate n (I 0)) = cs') [u:Up D b (C t cs) (C t cs') D'] (H:J R D' (k (.tuple #[]))) :
  J R D (X P (Builtin.clear_ #[30] 0 #[.slice (some ⟨b,o,none⟩) n c]) k):=by
 have O:∀h,St h R D->∀w:World,w.heap = h->∃v j,(Builtin.clear_ #[30] 0 #[.slice (some ⟨b,o,none⟩) n c]).run P w = .ok v j/\BH w j/\k v j.heap:=by
  intro h G w T;subst T;obtain⟨n,rfl⟩:∃m,n = m + 1:=⟨n - 1,Z⟩;obtain⟨A,w1,w2,w3⟩:=GC (List.replicate (n + 1) (I 0)) o (G.at_ b _ a.m).1 (by rw[dV];exact Q) (by unfold Bz;rw[df];intro x W;rw[(eR.1 W).2];rfl);obtain⟨j,K,y,N⟩:=Eo (P:=P) b (List.replicate (n + 1) (I 0)) o 0 w A w1;refine⟨.tuple #[],j,?_,y,?_⟩
  .rw[WP,Tc];simp only[dq,K,dY];rfl
  .rw[N];exact H A (G.turn (by rw[w2,hc]) w3)
 exact @jX _ _ _ _ O
theorem cI {b o n c t m d:Nat} {x:Addr} {l cs cs' : List Value} {D' : Chs} (hx:BY R D (some x) (Nat.min m n * 1) l) (hl:l.length = Nat.min m n) (Q:Bz l = true) [a:At D b (C t cs)] (W:o + l.length<=cs.length) (hc:lay cs o l = cs') [u:Up D b (C t cs) (C t cs') D']
  (H:J R D' (k (I (Nat.min m n:Nat)))):J R D (X P (Builtin.copy_ #[30,30] 3 #[.slice (some ⟨b,o,none⟩) n c,.slice (some x) m d]) k):=by
 have T:∀h,St h R D->∀w:World,w.heap = h->∃v j,(Builtin.copy_ #[30,30] 3 #[.slice (some ⟨b,o,none⟩) n c,.slice (some x) m d]).run P w = .ok v j/\BH w j/\k v j.heap:=by
  intro h A w hw;subst hw;obtain⟨K,w1,w2,w3⟩:=GC l o (A.at_ b _ a.m).1 W Q;obtain⟨j,N,G,O⟩:=Eo (P:=P) b l o 0 w K w1;have y:rdS w.heap (some x) (Nat.min m n * 1) = some l:=hx _ A;obtain⟨xb,xo,xs⟩:=x;cases xs with
  | some _=>cases y
  | none=>
  have y:rd w.heap xb xo (Nat.min m n * 1) = some l:=y;refine⟨I (Nat.min m n:Nat),j,?_,G,?_⟩
  .rw[Yp];simp only[dq,IM y,dY,N];rfl
  .rw[O];exact H K (A.turn (by rw[w2,hc]) w3)
 exact @jX _ _ _ _ T
theorem cB {v:Value} {w n:Nat} {j:List Value} {x y:Operand} (h:Fz R v w n j) (H:v = SN->n = 0->j = []->J R D (k (.bool true))) (K:J R D (k (.bool false))):J R D (X P (do eqGuard .eql 30 x y v (SN);binOp .eql 30 v (SN)) k):=by
 rcases h with ⟨rfl,O,Q⟩ | ⟨b,o,N,t,T,rfl,_⟩
 .intro h A w G;rw[ZZ];subst G;exact⟨BH.refl _,H rfl O Q _ A⟩
 .intro h A w G;rw[bI];subst G;exact⟨BH.refl _,K _ A⟩
theorem ba {v:Value} {l:List Int} {lo u:Int} (h:Ay R v l) (h0:0<=lo) (O:lo<=u) (W:u<=l.length) (H:∀Q,Ay R Q ((l.take u.toNat).drop lo.toNat)->J R D (k Q)):J R D (SL 1 v (some (I lo)) (some (I u)) k):=by
 rcases h with ⟨rfl,y,_⟩ | ⟨b,o,j,t,N,rfl,y,h4,T,h6⟩
 .intro G K;refine⟨⟨h0,O,Z⟩,H _ ?_ G K⟩;have e:l = []:=dy.1 y;have A:u = 0:=Z
  have x:lo = 0:=Z
  rw[e,A,x];exact .inl ⟨rfl,V,V⟩
 .intro G K;refine⟨⟨h0,O,Z⟩,H _ ?_ G K⟩;by_cases c:j = lo.toNat
  .have hl:l.length = lo.toNat:=Z
   have A:u.toNat = lo.toNat:=Z
   have x:((l.take u.toNat).drop lo.toNat).length = 0:=by rw[eO,dU];omega
   refine .inr ⟨b,o,j - lo.toNat,t,N,?_,y,?_,?_,?_⟩
   .rw[if_pos c,x,A,Nat.sub_self]
   .rw[x];omega
   .rw[dy.1 x];simp
   .rw[x];omega
  .refine .inr ⟨b,o + lo.toNat * 1,j - lo.toNat,t,N,?_,y,?_,?_,?_⟩
   .rw[if_neg c];simp;omega
   .simp only[eO,dU];omega
   .simp only[eO,dU];rw[List.map_drop,List.map_take,<- T,gS,gO,gT];congr 1
    .omega
    .congr 1;omega
   .simp only[eO,dU];omega
theorem cY {v:Value} {l:List Int} (h:Ay R v l) (hl:l.length < 1000000) (H:∀G b c sp,l.length<=c->sp.length = c - l.length->G = S0 b l.length c->J R ((b,C Ab (l.map I ++ sp)) :: D) (k G)) :
  J R D (BS 3 0 (ZR 0 z3) [] λx=>AP 3 1 8 (cl z3) x v k):=by
 obtain⟨a,N,rfl,Q⟩:=Fz.reads h;refine jbs (cs:=[]) rfl rfl λy=>(Wl (new:=l.map I) ?_ δ Z (λ_=>rfl) (λh0=>?_) (λK c hc=>B8 (fF _ _ _) (BV ?_)))
 .intro O j;exact Q O (St.drop (A:=[(y,C 3 [])]) (by simpa using j))
 .have:l = []:=dy.1 h0;subst this;exact H _ y 0 [] V V rfl
 .exact H _ K c _ hc (by rw[Br (w:=1) (by intro x T;rw[(eR.1 T).2];rfl)];simp) rfl
end rules
theorem Dq {R:RM} {v:Value} {l:List Int} (h:Ay R v l) (hl:l.length < 1000000):Fn P Ft [v] R [] (λx y A=>y = R/\SO l x A/\(0 < l.length->X2 l x A)):=by
 refine Ir λF=>?_
 refine z_1 ?_;refine cB h (λ_ h0 _=>DG ?_) (CQ ?_)
 .have:l = []:=dy.1 h0;subst this;exact Ao (RM.le.refl R) ⟨rfl,.inl ⟨rfl,rfl,rfl⟩,V⟩
 .refine cY h hl λD b c sp hc hsp j=>(Ao (RM.le.refl R) ⟨rfl,.inr ⟨b,c,sp,hc,hsp,j,rfl⟩,λ_=>⟨b,c,sp,hc,hsp,j,rfl⟩⟩)
theorem CZ (r:Int):Pu HT [I r] (I (AK r)):=λR=>Mv λF=>Ja r R F
theorem HA (s:Shp):Pu Kh [eSh s] (.bool (BN s)):=λR=>QN λF=>OA s R F
theorem Nf (s:Shp):Pu I9 [eSh s] (I (AY s)):=by
 intro R;refine NY λF=>?_
 refine z_1 ?_;refine ja λb=>jla (l:=[I s.refs,I s.nums]) V rfl (jp (HA s) (jif (λh=>?_) (λh=>?_)))
 .refine Ao (A:=[]) (RM.le.refl _) ?_;simp only[dp] at h;simp[AY,h]
 .simp only[eL] at h;obtain⟨h0,j,x,y⟩:=EM.1 h;refine jl rfl (HV ⟨Z,Z⟩ (jl rfl (jad (Ao (A:=[]) (RM.le.refl _) ?_))));simp[AY,h]
theorem Hw (s:Shp):Pu IE [eSh s] (I (AF s)):=by
 intro R;refine Nr λF=>?_
 refine z_1 ?_;refine ja λb=>jla (l:=[I s.refs,I s.nums]) V rfl (jp (HA s) (jif (λh=>?_) (λh=>?_)))
 .refine Ao (A:=[]) (RM.le.refl _) ?_;simp only[dp] at h;simp[AF,h]
 .simp only[eL] at h;obtain⟨h0,j,x,y⟩:=EM.1 h;refine jl rfl (jad (jl rfl (jad (Ao (A:=[]) (RM.le.refl _) ?_))));simp[AF,h]
theorem S4 {w:Int} (H:inR w):Pu Kc [I w] (.tuple #[eSh (AS w).1,.bool (AS w).2]):=by
 intro R;refine QT λF=>?_
 refine z_1 ?_;refine ja λb=>jlt (jif (λh=>?_) (λh=>?_))
 .have h:=z_f h;refine jbd rfl rfl (js (cs':=[I 0,I 0]) rfl rfl V rfl (jla V rfl (Ao (A:=[]) (RM.le.refl _) ?_)));unfold AS;rw[if_neg Z];rfl
 .have h:=z_g h;have x:w.tdiv 16 = w / 16:=fL Z;have y:w.tmod 16 = w % 16:=gG Z;refine PX δ (by rw[x];constructor<;>omega) (QK δ ?_);rw[x,y];refine jbd rfl rfl (ja λG=>js (cs':=[I (w / 16),I (w % 16)]) rfl rfl V rfl (jla (l:=[I (w / 16),I (w % 16)]) V rfl (jp (HA ⟨w / 16,w % 16⟩) ?_)));have D:BN ⟨w / 16,w % 16⟩ = decide (0<=w/\w / 16<=4/\w % 16<=4):=by
   rw[eY,EM,z_d];show 0<=w / 16/\w / 16<=4/\0<=w % 16/\w % 16<=4↔_;omega
  rw[D];refine jif (λj=>?_) (λj=>?_)
  .have j:¬ (0<=w/\w / 16<=4/\w % 16<=4):=by
    rw[dp,decide_eq_false_iff_not] at j;exact j
   refine jbd rfl rfl (js (cs':=[I 0,I 0]) rfl rfl V rfl (jla V rfl (Ao (A:=[]) (RM.le.refl _) ?_)));unfold AS;rw[if_neg j];rfl
  .have j:0<=w/\w / 16<=4/\w % 16<=4:=by simpa using j
   refine jla V rfl (js (cs':=[I (w / 16),I (w % 16)]) rfl rfl V rfl (jla (l:=[I (w / 16),I (w % 16)]) V rfl (Ao (A:=[]) (RM.le.refl _) ?_)));unfold AS;rw[if_pos j]
theorem HO (a:Option Addr) (n c:Nat) (O:n < 1000000000000):Pu KO [.slice a n c] (.bool (BM n)):=by
 intro R;refine Q7 λF=>?_
 refine z_1 ?_;have H:(n:Int).tmod 16 = (n % 16:Nat):=by rw[gG Z];omega
 refine jan [.slice a n c] (((n:Int).tmod 16 == 0) && (decide ((n:Int)>=32))) (λG j=>?_) (λe c u y he=>?_)
 .refine jln (QK δ (jeq (jgA j λD x=>jln (jge x))))
 refine z_V ?_;refine jan [] ((((n:Int).tmod 16 == 0) && decide ((n:Int)>=32)) && (decide ((n:Int)<=192))) (λG j=>?_) (λe c u y he=>?_)
 .rw[y];refine jgA j λD x=>jln (jle x)
 refine z_V ?_;rw[y];refine Ao (A:=[]) (RM.le.refl R) ?_;congr 1;unfold BM;rw[H,eY];simp only[z_b,z_d,beq_iff_eq];constructor<;>rintro⟨⟨D,K⟩,N⟩<;>exact⟨⟨Z,Z⟩,Z⟩
theorem RX (x:Option Addr) (n H:Nat) (a size:Int) (hn:n < 1000000000000) (h0:1<=size) (j:size<=16):Pu Qo [.slice x n H,I a,I size] (.bool (fits n a size)):=by
 intro R;refine Xb λF=>?_
 refine z_3 ?_;refine jan [.slice x n H,I a,I size] (BM n && decide (a>=16)) (λQ y=>?_) (λe c u D he=>?_)
 .refine jp (HO x n H hn) (Dl (λj=>jge (y _ _ _ (j▸Bh) (by rw[j,eP]))) (λj=>y _ _ _ (j▸By) (by rw[j,fA])))
 refine z_V ?_;refine jan [I a,I size] ((BM n && decide (a>=16)) && decide (a < n)) (λQ y=>?_) (λe c u D he=>?_)
 .rw[D];exact Dl (λj=>jln (jlt (y _ _ _ (j▸Bh) (by rw[j,eP])))) (λj=>y _ _ _ (j▸By) (by rw[j,fA]))
 refine z_V ?_;refine jan [] (((BM n && decide (a>=16)) && decide (a < n)) && decide (a.tmod 16 + size<=16)) (λQ y=>?_) (λe c u D he=>?_)
 .rw[D];refine Dl (λj=>QK δ ?_) (λj=>y _ _ _ (j▸By) (by rw[j,fA]));have h2:=j;simp only[z_b,z_d] at h2;have W:a.tmod 16 = a % 16:=gG Z;exact D0 (by rw[W];constructor<;>omega) (jle (y _ _ _ (j▸Bh) (by rw[j,eP])))
 refine z_V ?_;rw[D];refine Ao (A:=[]) (RM.le.refl R) ?_;congr 1;unfold fits;rw[eY];simp only[z_b,z_d,beq_iff_eq];have T:16<=a->(AN a = AN (a + size - 1)↔a.tmod 16 + size<=16):=λha=>by
  rw[gG Z];unfold AN;rw[if_neg Z,if_neg Z];omega
 constructor
 .rintro⟨⟨⟨K,G⟩,N⟩,O⟩;exact⟨⟨⟨⟨⟨K,Z⟩,j⟩,G⟩,N⟩,(T G).2 O⟩
 .rintro⟨⟨⟨⟨⟨K,_⟩,_⟩,G⟩,N⟩,O⟩;exact⟨⟨⟨K,G⟩,N⟩,(T G).1 O⟩
theorem Qi {R:RM} {wv:Value} {w:List Int} (a:Int) (h:Ay R wv w) (hl:w.length < 1000000) (G:inR (w.getD (a.toNat + 1) 0)) :
  Fn P L6 [wv,I a] R [] (λv R' A=>A = []/\∃x,ThV R' x (As w a).1/\v = .tuple #[x,.bool (As w a).2]):=by
 refine QF λF=>?_
 refine z_2 ?_;obtain⟨wa,wc,y⟩:=h.sl;have D:ThV R (.agg (eTh Eg (SN) (SN)).toArray) Eg:=⟨_,_,rfl,.inl ⟨rfl,rfl,rfl⟩,.inl ⟨rfl,rfl,rfl⟩⟩;refine ja λb1=>?_
 have h':=h;rw[y];refine jp (RX wa w.length wc a 2 Z δ δ) ?_;rw[<- y];refine jif (λh0=>?_) (λh0=>?_)
 .have h0:fits w.length a 2 = false:=by simpa using h0
  have e:As w a = (Eg,false):=by unfold As;rw[h0];rfl
  refine jbd rfl rfl (js rfl rfl (by exact z_n 6) rfl (jla (by exact z_n 6) rfl ?_));rw[e];exact Ao (RM.le.refl _) ⟨rfl,_,D,rfl⟩
 have h0:fits w.length a 2 = true:=by simpa using h0
 obtain⟨a0,a1,-,-⟩:=FM h0;obtain⟨n,rfl⟩:∃n:Nat,a = n:=⟨a.toNat,Z⟩;refine jad (Bk h Z Z ?_);have e1:w[((n:Int) + 1).toNat]'(Z) = w.getD (n + 1) 0:=by
  have:((n:Int) + 1).toNat = n + 1:=Z
  simp only[this];rw[dI,dH Z];rfl
 rw[e1];simp only[dG] at G;generalize Q:w.getD (n + 1) 0 = wd at G ⊢;refine jp (S4 G) (jex rfl (jex rfl (ja λa2=>jS [I (AS wd).1.refs,I (AS wd).1.nums] (jor [wv,I n,Pt b1,Pt a2] (!((AS wd).2 && fits w.length n (AF (AS wd).1))) (λK' H=>?_) (λe c u ho he=>?_)))))
 .refine FB (λj=>?_) (λj=>?_)
  .have j:(AS wd).2 = true:=by simpa using j
   obtain⟨q0,q1,q2,q3,q4⟩:=GD j;refine jla (l:=[I (AS wd).1.refs,I (AS wd).1.nums]) V rfl (jp (Hw _) ?_);rw[y];refine jp (RX wa w.length wc n _ Z Z Z) ?_;rw[<- y,j];exact H _ _ _ CH (by rw[j,eP])
  .have j:(AS wd).2 = false:=by simpa using j
   rw[j];exact H _ _ true DN (by rw[j];rfl)
 refine z_V ?_;rw[ho];refine jif (λj=>?_) (λj=>?_)
 .have j:((AS wd).2 && fits w.length n (AF (AS wd).1)) = false:=by rw[dp] at j;exact j
  have e:As w n = (Eg,false):=by
   unfold As;rw[if_pos h0,dG,Q];simp only[j];rfl
  refine jbd rfl rfl (js rfl rfl (by exact z_n 6) rfl (jla (by exact z_n 6) rfl ?_));rw[e];exact Ao (RM.le.refl _) ⟨rfl,_,D,rfl⟩
 have j:((AS wd).2 && fits w.length n (AF (AS wd).1)) = true:=by simpa using j
 have et:As w n = (⟨n,w.getD n 0,(AS wd).1,seg w (n + 2) (AS wd).1.refs,seg w (n + 2 + (AS wd).1.refs) (AS wd).1.nums⟩,true):=by
  unfold As;rw[if_pos h0,dG,Q];simp only[j];rfl
 simp only[z_b] at j;obtain⟨q0,q1,q2,q3,q4⟩:=GD j.1;obtain⟨-,q5,-,-⟩:=FM j.2;rw[et];generalize (AS wd).1 = sh at q0 q1 q2 q3 q4 q5 ⊢;rw[q4] at q5;have en:w[(n:Int).toNat]'(Z) = w.getD n 0:=by
  simp only[dG];rw[dI,dH Z];rfl
 refine jad (jl rfl (jad (Xe h Z Z λq hq=>?_)));rw[en] at hq;refine hq _ _ (jla V rfl (ba h Z Z Z λv1 N=>(jl rfl (jad (ba h Z Z Z λv2 O=>?_)))));have l1:((w.take ((n:Int) + 2 + sh.refs).toNat).drop ((n:Int) + 2).toNat) = seg w (n + 2) sh.refs:=by
  unfold seg;rw[gO];congr 1;omega
 have l2:((w.take ((n:Int) + 2 + sh.refs + sh.nums).toNat).drop ((n:Int) + 2 + sh.refs).toNat) = seg w (n + 2 + sh.refs) sh.nums:=by
  unfold seg;rw[gO];congr 1;omega
 rw[l1] at N;rw[l2] at O;have a8:(seg w (n + 2) sh.refs).length < 1000000:=by unfold seg;rw[dU,eO];omega
 have a9:(seg w (n + 2 + sh.refs) sh.nums).length < 1000000:=by unfold seg;rw[dU,eO];omega
 refine jc (Dq N a8) ?_;rintro x1 R1 A1 _ ⟨a3,T,-⟩;subst a3;refine Ak (hq _ _ jev) (Ak (jla V rfl jev) (Ak (jl rfl jev) (jc (Dq O a9) ?_)));rintro x2 R2 A2 _ ⟨a4,W,-⟩;subst a4;obtain⟨b0,b3,e1⟩:=T.sln;obtain⟨b2,b4,e2⟩:=W.sln;subst e1 e2;refine jbd (cs:=[I n,I (w.getD n 0),I sh.refs,I sh.nums,.slice b0 (seg w (n + 2) sh.refs).length b3,.slice b2 (seg w (n + 2 + sh.refs) sh.nums).length b4]) rfl rfl (Ak (hq _ _ jev) (Ak (jla V rfl jev) (js rfl rfl (by exact z_n 6) rfl (jla (by exact z_n 6) rfl (Dv W λR3 a5 a7=>Dv T λR4 K a6=>(Ao (a5.trans K) ⟨rfl,_,⟨_,_,rfl,a6,a7.le K⟩,rfl⟩))))))
end Go.Lf
end
