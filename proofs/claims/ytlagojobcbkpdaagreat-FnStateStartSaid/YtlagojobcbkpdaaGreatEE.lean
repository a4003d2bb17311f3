/- A part of the proof of the given row: the walk of the law and of all that it calls. Conditions: none. -/
import Derived.Test.YtlagojobcbkpdaaGreatRows
import Derived.ProofKit
import Derived.ChangeOld
import Derived.MapKept
import Derived.ChangeMaps4
import Derived.Test.YtlagojobcbkpdaaGreatED
set_option linter.unusedVariables false
set_option linter.unusedSimpArgs false
set_option maxRecDepth 100000
section
namespace Sm
def Rn (x:Int):Prop:=-9223372036854775808≤x∧x < 9223372036854775808
structure RT (t:Thr):Prop where
 r:∀a∈t.AD,Rn a
 h:Rn t.h
 g:Rn t.g
 k:Rn t.k
 u:Rn t.u
 v:Rn t.v
 w:Rn t.word
 d:Rn t.dst
structure RC (x:Col):Prop where
 w:Rn x.word
 d:Rn x.dst
structure RS (S:Sim):Prop where
 w:∀x∈S.AE,Rn x
 t:∀t∈S.th,RT t
 c:RC S.col
 o:∀p∈S.Bi,∀o∈p,Rn o.v
theorem Rn.zero:Rn 0:=by unfold Rn;omega
theorem BM {α:Type} {l:List α} {i:Int} {x:α} (h:idx l i = some x):x∈l:=by
 unfold idx at h;split at h
 ·exact List.mem_of_getElem? h
 ·cases h
theorem Cq {α:Type} {l:List α} {i:Int} {x y:α} (h:y∈Ak l i x):y∈l∨y = x:=TL h
theorem RT.thr0 {AD:List Int} {n m:Int} (h:∀a∈AD,Rn a):RT (thr0 AD n m):=⟨h,Rn.zero,Rn.zero,Rn.zero,Rn.zero,Rn.zero,Rn.zero,Rn.zero⟩
theorem Rn.room {t t' : List Rg} {o z d:Int} (h:C8 t o z = some (t',d)):Rn d:=by
 have hh:BV t = true∧0≤o∧o≤3∧1≤z∧z≤16:=by
  unfold C8 at h;split at h
  ·rename_i hh;simp only[z_b,z_d] at hh;exact⟨hh.1.1.1.1,hh.1.1.1.2,hh.1.1.2,hh.1.2,hh.2⟩
  ·cases h
 obtain⟨h0,h1,h2,h3,h4⟩:=hh;rcases Lh (BZ.1 h0) h1 h2 h3 h4 with hn | ⟨t2,d2,he,hr⟩
 ·rw[hn] at h;cases h
 rw[he] at h;cases h;have:=hr.d0;have n1:=hr.ok.n1;by_cases c:d / 16 < t'.length
 ·unfold Rn;omega
 ·have:=hr.dk;rw[HH ω ω] at this;cases this
theorem Rn.shape {s:Shp}:Rn (Au s):=by
 unfold Au;split
 ·rename_i h;simp only[Ad,z_b,z_d] at h;unfold Rn;omega
 ·unfold Rn;omega
section
variable {S S' : Sim} {i a v:Int}
theorem RS.rd (R:RS S) (h:S.read a = some (v,S')):Rn v∧RS S'∧S'.th = S.th∧S'.Bi = S.Bi∧S'.col = S.col:=by
 unfold Sim.read at h;split at h
 ·rename_i hv;cases h;exact⟨R.w _ (BM hv),⟨R.w,R.t,R.c,R.o⟩,rfl,rfl,rfl⟩
 ·cases h
theorem RS.wt (R:RS S) (hv:Rn v) (h:S.write a v = some S'):RS S':=by
 unfold Sim.write at h;split at h
 ·cases h;exact⟨λx hx=>(Cq hx).elim (R.w x) λe=>e▸hv,R.t,R.c,R.o⟩
 ·cases h
theorem RS.st (R:RS S) {t:Thr} (ht:RT t):RS (S.setT i t):=⟨R.w,λx hx=>(Cq hx).elim (R.t x) λe=>e▸ht,R.c,R.o⟩
theorem RS.ev (R:RS S) {b:Int} (h:S.event i a b = some S'):RS S':=by
 unfold Sim.event at h;split at h
 ·cases h
 split at h
 ·rename_i ht;split at h
  ·cases h;exact⟨R.w,λx hx=>(Cq hx).elim (R.t x) λe=>e▸RT.thr0 (R.t _ (BM ht)).r,R.c,R.o⟩
  ·cases h
 ·cases h
theorem RS.pu (R:RS S) (ha:Rn a) (h:S.push i a = some S'):RS S':=by
 unfold Sim.push at h;split at h
 ·cases h
 split at h
 ·rename_i t ht;have T:=R.t _ (BM ht);refine RS.ev (R.st ?_) h;exact⟨λx hx=>(Rq.1 hx).elim (T.r x) λe=>by rw[Ri.1 e];exact ha,T.h,T.g,T.k,T.u,T.v,T.w,T.d⟩
 ·cases h
theorem RS.bk (R:RS S) (h:S.back i = some S'):RS S':=by
 unfold Sim.back at h;split at h
 ·rename_i ht;cases h;exact⟨R.w,λx hx=>(Cq hx).elim (R.t x) λe=>e▸RT.thr0 (R.t _ (BM ht)).r,R.c,R.o⟩
 ·cases h
theorem RS.tp (R:RS S) (h:S.top a v = some S'):RS S':=by
 unfold Sim.top at h;split at h
 ·split at h
  ·cases h;exact⟨R.w,R.t,R.c,R.o⟩
  ·cases h
 ·cases h
theorem RS.od (R:RS S) (h:S.oldV v = some S'):RS S':=by
 unfold Sim.oldV at h;split at h
 ·cases h
 ·cases h;split
  ·exact⟨R.w,R.t,R.c,R.o⟩
  ·exact R
theorem RS.op (R:RS S) {t:Thr} {o:Op} (h:S.opOf i t = some o):Rn o.v:=by
 unfold Sim.opOf at h;split at h
 ·rename_i hp;exact R.o _ (BM hp) _ (BM h)
 ·cases h
theorem RT.pc {t:Thr} (T:RT t) (n:Int):RT { t with pc:=n }:=⟨T.r,T.h,T.g,T.k,T.u,T.v,T.w,T.d⟩
theorem RT.hold {t:Thr} (T:RT t) (n:Int) (ha:Rn a):RT (Fv t n a):=by
 unfold Fv;split
 ·exact⟨T.r,ha,T.g,T.k,T.u,T.v,T.w,T.d⟩
 split
 ·exact⟨T.r,T.h,ha,T.k,T.u,T.v,T.w,T.d⟩
 split
 ·exact⟨T.r,T.h,T.g,ha,T.u,T.v,T.w,T.d⟩
 ·exact⟨T.r,T.h,T.g,T.k,T.u,ha,T.w,T.d⟩
theorem RS.begin_ (R:RS S) (h:S.begin_ i = some S'):RS S':=by
 unfold Sim.begin_ at h;obtain⟨t,ht,h⟩:=RP.1 h;have T:=R.t _ (BM ht);obtain⟨o,ho,h⟩:=RP.1 h;split at h
 ·exact R.ev h
 dsimp only at h;split at h
 ·exact R.ev h
 split at h
 ·exact RS.ev (R.st (by exact⟨λx hx=>T.r x (SM hx),T.h,T.g,T.k,T.u,T.v,T.w,T.d⟩)) h
 split at h
 ·obtain⟨b,hb,h⟩:=RP.1 h;exact R.pu (T.r _ (BM hb)) h
 split at h
 ·cases h;exact R.st (T.pc _)
 obtain⟨b,hb,h⟩:=RP.1 h;have T1:RT { t with pc:=1,h:=b }:=⟨T.r,T.r _ (BM hb),T.g,T.k,T.u,T.v,T.w,T.d⟩;obtain⟨t2,h2,h⟩:=RP.1 h;have T2:RT t2:=by
  split at h2
  ·obtain⟨c,hc,h2⟩:=RP.1 h2;cases h2;exact⟨T1.r,T1.h,T1.r _ (BM hc),T1.k,T1.u,T1.v,T1.w,T1.d⟩
  ·cases h2;exact T1
 obtain⟨t3,h3,h⟩:=RP.1 h;have T3:RT t3:=by
  split at h3
  ·obtain⟨c,hc,h3⟩:=RP.1 h3;cases h3;exact⟨T2.r,T2.h,T2.g,T2.r _ (BM hc),T2.u,T2.v,T2.w,T2.d⟩
  ·cases h3;exact T2
 cases h;exact R.st T3
theorem RS.resolve (R:RS S) (h:S.resolve i = some S'):RS S':=by
 unfold Sim.resolve at h;obtain⟨t,ht,h⟩:=RP.1 h;have T:=R.t _ (BM ht);split at h
 ·cases h
 dsimp only at h;obtain⟨f,hf,h⟩:=RP.1 h;split at h
 ·cases h;exact R.st (T.pc _)
 obtain⟨⟨w,S1⟩,h1,h⟩:=RP.1 h;obtain⟨hw,R1,e1,_⟩:=R.rd h1;dsimp only at h;split at h
 ·cases h;exact R1.st ⟨T.r,T.h,T.g,T.k,T.u,T.v,T.w,T.d⟩
 ·cases h;exact R1.st (T.hold _ hw)
theorem RS.copying (R:RS S) (h:S.copying i = some S'):RS S':=by
 unfold Sim.copying at h;obtain⟨t,ht,h⟩:=RP.1 h;have T:=R.t _ (BM ht);split at h
 ·obtain⟨b,hb,h⟩:=RP.1 h;obtain⟨⟨w,S1⟩,h1,h⟩:=RP.1 h;obtain⟨hw,R1,_⟩:=R.rd h1;dsimp only at h;split at h
  ·exact R1.bk h
  ·rename_i hr;cases h;exact RS.st (by exact⟨R1.w,R1.t,R1.c,R1.o⟩) (by exact⟨T.r,T.h,T.g,T.k,T.u,T.v,T.w,Rn.room hr⟩)
 split at h
 ·obtain⟨b,hb,h⟩:=RP.1 h;obtain⟨⟨w,S1⟩,h1,h⟩:=RP.1 h;obtain⟨hw,R1,_⟩:=R.rd h1;cases h;exact R1.st ⟨T.r,T.h,T.g,T.k,T.u,T.v,hw,T.d⟩
 split at h
 ·obtain⟨b,hb,h⟩:=RP.1 h;obtain⟨S1,h1,h⟩:=RP.1 h;have R1:=R.wt T.w h1;obtain⟨n,hn,h⟩:=RP.1 h;cases h;exact R1.st ⟨T.r,T.h,T.g,T.k,T.u,T.v,T.w,T.d⟩
 split at h
 ·obtain⟨S1,h1,h⟩:=RP.1 h;have R1:=R.wt T.d h1;cases h;exact R1.st (T.pc _)
 split at h
 ·split at h
  ·cases h
  obtain⟨⟨w,S1⟩,h1,h⟩:=RP.1 h;obtain⟨hw,R1,_⟩:=R.rd h1;dsimp only at h;split at h
  ·obtain⟨S2,h2,h⟩:=RP.1 h;obtain⟨S3,h3,h⟩:=RP.1 h;cases h;exact ((R1.wt T.d h2).tp h3).st (T.hold _ T.d)
  ·cases h;exact R1.st (T.hold _ hw)
 ·cases h;exact R.st T
theorem RS.making (R:RS S) (h:S.making i = some S'):RS S':=by
 unfold Sim.making at h;obtain⟨t,ht,h⟩:=RP.1 h;have T:=R.t _ (BM ht);obtain⟨o,ho,h⟩:=RP.1 h;split at h
 ·dsimp only at h;split at h
  ·split at h
   ·exact R.ev h
   ·exact R.bk h
  ·rename_i hr;cases h;exact RS.st (by exact⟨R.w,R.t,R.c,R.o⟩) (by exact⟨T.r,T.h,T.g,T.k,T.u,T.v,T.w,Rn.room hr⟩)
 split at h
 ·obtain⟨S1,h1,h⟩:=RP.1 h;cases h;exact (R.wt T.d h1).st (T.pc _)
 obtain⟨⟨S1,t1⟩,h1,h⟩:=RP.1 h;have H1:RS S1∧RT t1:=by
  split at h1
  ·obtain⟨b,hb,h1⟩:=RP.1 h1;obtain⟨S2,h2,h1⟩:=RP.1 h1;cases h1;exact⟨R.wt Rn.shape h2,T⟩
  split at h1
  ·obtain⟨b,hb,h1⟩:=RP.1 h1;obtain⟨S2,h2,h1⟩:=RP.1 h1;obtain⟨n,hn,h1⟩:=RP.1 h1;cases h1;exact⟨R.wt Rn.zero h2,⟨T.r,T.h,T.g,T.k,T.u,T.v,T.w,T.d⟩⟩
  ·cases h1;exact⟨R,T⟩
 obtain⟨R1,T1⟩:=H1;dsimp only at h;split at h
 ·obtain⟨S2,h2,h⟩:=RP.1 h;exact ((R1.st (T1.pc 33)).tp h2).pu T1.d h
 ·cases h;exact R1.st (T1.pc 33)
theorem RS.load (R:RS S) (hv:Rn v) (h:S.load i v = some S'):RS S':=by
 unfold Sim.load at h;obtain⟨t,ht,h⟩:=RP.1 h;have T:=R.t _ (BM ht);split at h
 ·exact R.pu T.v h
 obtain⟨f,hf,h⟩:=RP.1 h;split at h
 ·exact R.pu hv h
 ·cases h;exact R.st ⟨T.r,T.h,T.g,T.k,hv,hv,T.w,T.d⟩
theorem RS.swap (R:RS S) (hv:Rn v) (h:S.swap i v = some S'):RS S':=by
 unfold Sim.swap at h;obtain⟨t,ht,h⟩:=RP.1 h;have T:=R.t _ (BM ht);split at h
 ·exact R.ev h
 dsimp only at h;obtain⟨f,hf,h⟩:=RP.1 h;split at h
 ·cases h;exact R.st ⟨T.r,T.h,T.g,T.k,hv,hv,T.w,T.d⟩
 split at h
 ·exact R.ev h
 obtain⟨S1,h1,h⟩:=RP.1 h;cases h;exact (R.od h1).st ⟨T.r,T.h,T.g,T.k,hv,T.v,T.w,T.d⟩
theorem RS.shape (R:RS S) (h:S.shape i = some S'):RS S':=by
 unfold Sim.shape at h;obtain⟨t,ht,h⟩:=RP.1 h;have T:=R.t _ (BM ht);split at h
 ·cases h
 obtain⟨o,ho,h⟩:=RP.1 h;split at h
 ·exact R.ev h
 split at h
 ·split at h
  ·exact R.ev h
  ·exact RS.ev (by exact⟨R.w,R.t,R.c,R.o⟩) h
 obtain⟨b,hb,h⟩:=RP.1 h;obtain⟨⟨w,S1⟩,h1,h⟩:=RP.1 h;obtain⟨hw,R1,_⟩:=R.rd h1;dsimp only at h;split at h
 ·exact R1.ev h
 ·cases h;exact R1.st ⟨T.r,T.h,T.g,T.k,T.u,T.v,T.w,T.d⟩
theorem RS.field (R:RS S) (h:S.field i = some S'):RS S':=by
 unfold Sim.field at h;obtain⟨t,ht,h⟩:=RP.1 h;have T:=R.t _ (BM ht);obtain⟨o,ho,h⟩:=RP.1 h;obtain⟨b1,hb1,h⟩:=RP.1 h;obtain⟨ref,hb2,h⟩:=RP.1 h;obtain⟨b3,hb3,h⟩:=RP.1 h;obtain⟨num,hb4,h⟩:=RP.1 h;split at h
 ·obtain⟨⟨w,S1⟩,h1,h⟩:=RP.1 h;obtain⟨hw,R1,_⟩:=R.rd h1;exact R1.load hw h
 split at h
 ·obtain⟨⟨w,S1⟩,h1,h⟩:=RP.1 h;obtain⟨hw,R1,_⟩:=R.rd h1;obtain⟨S2,h2,h⟩:=RP.1 h;cases h;exact (R1.od h2).st (T.pc _)
 split at h
 ·obtain⟨S1,h1,h⟩:=RP.1 h;exact (R.wt T.g h1).ev h
 split at h
 ·obtain⟨S1,h1,h⟩:=RP.1 h;exact (R.wt (R.op ho) h1).ev h
 split at h
 ·obtain⟨⟨w,S1⟩,h1,h⟩:=RP.1 h;obtain⟨hw,R1,_⟩:=R.rd h1;exact R1.ev h
 split at h
 ·obtain⟨⟨w,S1⟩,h1,h⟩:=RP.1 h;obtain⟨hw,R1,_⟩:=R.rd h1;exact R1.swap hw h
 split at h
 ·obtain⟨⟨w,S1⟩,h1,h⟩:=RP.1 h;obtain⟨hw,R1,_⟩:=R.rd h1;dsimp only at h;split at h
  ·obtain⟨S2,h2,h⟩:=RP.1 h;exact (R1.wt T.k h2).ev h
  ·cases h;exact R1.st (T.pc _)
 split at h
 ·split at h
  ·cases h;exact R.st (T.pc _)
  ·obtain⟨⟨w,S1⟩,h1,h⟩:=RP.1 h;obtain⟨hw,R1,_⟩:=R.rd h1;exact R1.swap hw h
 ·cases h;exact R
theorem RS.tstep (R:RS S) (h:S.tstep i = some S'):RS S':=by
 unfold Sim.tstep at h;obtain⟨t,ht,h⟩:=RP.1 h;split at h
 ·exact R.resolve h
 split at h
 ·exact R.shape h
 split at h
 ·exact R.making h
 split at h
 ·exact R.copying h
 ·exact R.field h
theorem RS.tloop:∀(n:Nat) {S S' : Sim},RS S→Sim.tloop n S i = some S'→RS S'
 | 0,_,_,_,h=>by cases h
 | n + 1,S,S',R,h=>by
  unfold Sim.tloop at h;obtain⟨t,ht,h⟩:=RP.1 h;split at h
  ·cases h;exact R
  ·obtain⟨S1,h1,h⟩:=RP.1 h;exact RS.tloop n (R.tstep h1) h
theorem RS.thread {n:Nat} (R:RS S) (h:S.thread n i = some S'):RS S':=by
 unfold Sim.thread at h;obtain⟨t,ht,h⟩:=RP.1 h;split at h
 ·split at h
  ·cases h;exact R
  ·obtain⟨p,hp,h⟩:=RP.1 h;split at h
   ·exact R.begin_ h
   ·cases h;exact R
 ·exact RS.tloop n (by exact⟨R.w,R.t,R.c,R.o⟩) h
end
section
variable {S S' : Sim} {i a v:Int}
theorem RS.sc (R:RS S) {c:Col} (hc:RC c):RS (S.setC c):=⟨R.w,R.t,hc,R.o⟩
theorem RC.zero (a:Bool) (n:Int):RC (LT a n):=⟨Rn.zero,Rn.zero⟩
theorem RS.mark (R:RS S) (h:S.mark = some S'):RS S':=by
 unfold Sim.mark at h;split at h
 ·cases h
 dsimp only at h;split at h
 ·split at h
  ·cases h;exact⟨R.w,R.t,⟨R.c.w,R.c.d⟩,R.o⟩
  ·cases h;exact⟨R.w,R.t,⟨R.c.w,R.c.d⟩,R.o⟩
 obtain⟨b,hb,h⟩:=RP.1 h;obtain⟨row,hrow,h⟩:=RP.1 h;obtain⟨c,hc,h⟩:=RP.1 h;split at h
 ·obtain⟨p1,hp,h⟩:=RP.1 h;obtain⟨⟨w,S1⟩,h1,h⟩:=RP.1 h;obtain⟨hw,R1,_⟩:=RS.rd (by exact⟨R.w,R.t,R.c,R.o⟩) h1;dsimp only at h;obtain⟨lv,hl,h⟩:=RP.1 h;cases h;exact⟨R1.w,R1.t,⟨R.c.w,R.c.d⟩,R1.o⟩
 ·cases h;exact⟨R.w,R.t,⟨R.c.w,R.c.d⟩,R.o⟩
theorem RS.look (R:RS S) (h:S.look = some S'):RS S':=by
 unfold Sim.look at h;split at h
 ·cases h
 dsimp only at h;obtain⟨b,hb,h⟩:=RP.1 h;obtain⟨b2,hb2,h⟩:=RP.1 h;obtain⟨⟨w,S1⟩,h1,h⟩:=RP.1 h;obtain⟨hw,R1,_⟩:=R.rd h1;dsimp only at h;obtain⟨n,hn,h⟩:=RP.1 h;cases h;exact⟨R1.w,R1.t,⟨R.c.w,R.c.d⟩,R1.o⟩
theorem RS.walk (R:RS S) (h:S.walk = some S'):RS S':=by
 unfold Sim.walk at h;dsimp only at h;obtain⟨⟨r,p⟩,hb,h⟩:=RP.1 h;dsimp only at h;split at h
 ·cases h;exact⟨R.w,R.t,⟨R.c.w,R.c.d⟩,R.o⟩
 obtain⟨q,hq,h⟩:=RP.1 h;obtain⟨⟨w,S1⟩,h1,h⟩:=RP.1 h;obtain⟨hw,R1,_⟩:=R.rd h1;dsimp only at h;cases h;refine R1.sc ?_;split
 ·exact⟨R.c.w,R.c.d⟩
 ·exact⟨R.c.w,R.c.d⟩
theorem RS.carry (R:RS S) (h:S.carry = some S'):RS S':=by
 unfold Sim.carry at h;dsimp only at h;split at h
 ·obtain⟨b,hb,h⟩:=RP.1 h;obtain⟨⟨w,S1⟩,h1,h⟩:=RP.1 h;obtain⟨hw,R1,_⟩:=R.rd h1;dsimp only at h;split at h
  ·cases h;exact⟨R1.w,R1.t,R1.c,R1.o⟩
  ·rename_i hr;cases h;exact⟨R1.w,R1.t,⟨R.c.w,Rn.room hr⟩,R1.o⟩
 split at h
 ·obtain⟨b,hb,h⟩:=RP.1 h;obtain⟨⟨w,S1⟩,h1,h⟩:=RP.1 h;obtain⟨hw,R1,_⟩:=R.rd h1;cases h;exact R1.sc ⟨hw,R.c.d⟩
 split at h
 ·obtain⟨b,hb,h⟩:=RP.1 h;obtain⟨S1,h1,h⟩:=RP.1 h;have R1:=R.wt R.c.w h1;obtain⟨n,hn,h⟩:=RP.1 h;cases h;exact R1.sc ⟨R.c.w,R.c.d⟩
 split at h
 ·obtain⟨S1,h1,h⟩:=RP.1 h;have R1:=R.wt R.c.d h1;cases h;exact R1.sc ⟨R.c.w,R.c.d⟩
 split at h
 ·obtain⟨⟨w,S1⟩,h1,h⟩:=RP.1 h;obtain⟨hw,R1,_⟩:=R.rd h1;dsimp only at h;obtain⟨S2,h2,h⟩:=RP.1 h;have R2:RS S2:=by
   split at h2
   ·obtain⟨S3,h3,h2⟩:=RP.1 h2;exact (R1.wt R.c.d h3).tp h2
   ·cases h2;exact R1
  cases h;exact R2.sc ⟨R.c.w,R.c.d⟩
 ·cases h;exact R
theorem RC.then_ {x y:Col} (hx:RC x) (h:Gu x = some y):RC y:=by
 unfold Gu at h;obtain⟨n,hn,h⟩:=RP.1 h;cases h;exact⟨hx.w,hx.d⟩
theorem RS.renew (R:RS S) (h:S.renew = some S'):RS S':=by
 unfold Sim.renew at h;dsimp only at h;split at h
 ·obtain⟨⟨r,p⟩,hb,h⟩:=RP.1 h;dsimp only at h;split at h
  ·cases h;exact⟨R.w,R.t,⟨R.c.w,R.c.d⟩,R.o⟩
  obtain⟨q,hq,h⟩:=RP.1 h;obtain⟨⟨w,S1⟩,h1,h⟩:=RP.1 h;obtain⟨hw,R1,_⟩:=R.rd h1;dsimp only at h;obtain⟨q2,hq2,h⟩:=RP.1 h;obtain⟨row,hrow,h⟩:=RP.1 h;obtain⟨go,hgo,h⟩:=RP.1 h;cases h;refine R1.sc ?_;split
  ·exact⟨R.c.w,R.c.d⟩
  ·exact⟨R.c.w,R.c.d⟩
 split at h
 ·obtain⟨b,hb,h⟩:=RP.1 h;obtain⟨b2,hb2,h⟩:=RP.1 h;obtain⟨⟨w,S1⟩,h1,h⟩:=RP.1 h;obtain⟨hw,R1,_⟩:=R.rd h1;dsimp only at h;obtain⟨f,hf,h⟩:=RP.1 h;split at h
  ·cases h;exact R1.sc ⟨R.c.w,R.c.d⟩
  ·obtain⟨y,hy,h⟩:=RP.1 h;cases h;exact R1.sc (RC.then_ (by exact⟨R.c.w,R.c.d⟩) hy)
 split at h
 ·obtain⟨⟨w,S1⟩,h1,h⟩:=RP.1 h;obtain⟨hw,R1,_⟩:=R.rd h1;dsimp only at h;split at h
  ·obtain⟨y,hy,h⟩:=RP.1 h;cases h;exact R1.sc (RC.then_ (by exact⟨hw,R.c.d⟩) hy)
  ·cases h;exact R1.sc ⟨hw,R.c.d⟩
 split at h
 ·obtain⟨b,hb,h⟩:=RP.1 h;obtain⟨b2,hb2,h⟩:=RP.1 h;obtain⟨⟨w,S1⟩,h1,h⟩:=RP.1 h;obtain⟨hw,R1,_⟩:=R.rd h1;dsimp only at h;obtain⟨S2,h2,h⟩:=RP.1 h;have R2:RS S2:=by
   split at h2
   ·exact R1.wt R.c.w h2
   ·cases h2;exact R1
  obtain⟨y,hy,h⟩:=RP.1 h;cases h;exact R2.sc (RC.then_ R.c hy)
 ·cases h;exact R
theorem RS.work (R:RS S) (h:S.work = some S'):RS S':=by
 unfold Sim.work at h;split at h
 ·exact R.mark h
 split at h
 ·exact R.look h
 split at h
 ·exact R.walk h
 split at h
 ·exact R.carry h
 ·exact R.renew h
theorem RS.cloop:∀(n:Nat) {S S' : Sim},RS S→Sim.cloop n S = some S'→RS S'
 | 0,_,_,_,h=>by cases h
 | n + 1,S,S',R,h=>by
  unfold Sim.cloop at h;split at h
  ·obtain⟨S1,h1,h⟩:=RP.1 h;exact RS.cloop n (R.work h1) h
  ·cases h;exact R
theorem RS.idle (R:RS S) (h:S.idle = some S'):RS S':=by
 unfold Sim.idle at h;obtain⟨n,hn,h⟩:=RP.1 h;cases h;exact⟨R.w,R.t,RC.zero _ _,R.o⟩
theorem RS.drain:∀(n:Nat) {S S' : Sim},RS S→Sim.drain n S = some S'→RS S'
 | 0,_,_,_,h=>by cases h
 | n + 1,S,S',R,h=>by
  unfold Sim.drain at h;split at h
  ·cases h
  split at h
  ·dsimp only at h;split at h
   ·obtain⟨S1,h1,h⟩:=RP.1 h;exact RS.drain n (R.look h1) h
   ·obtain⟨S1,h1,h⟩:=RP.1 h;exact RS.drain n (R.mark h1) h
  ·cases h;exact R
theorem RS.choose {n:Nat} (R:RS S) (h:S.choose n = some S'):RS S':=by
 unfold Sim.choose at h;obtain⟨S1,h1,h⟩:=RP.1 h;have R1:=RS.drain n R h1;dsimp only at h;obtain⟨t,ht,h⟩:=RP.1 h;split at h
 ·exact RS.idle (by exact⟨R1.w,R1.t,R1.c,R1.o⟩) h
 ·cases h;exact⟨R1.w,R1.t,⟨Rn.zero,Rn.zero⟩,R1.o⟩
theorem RS.rootsF (R:RS S):∀{l l' : List Int},(∀a∈l,Rn a)→S.rootsF l = some l'→∀a∈l',Rn a
 | [],l',_,h=>by cases h;simp
 | a :: r,l',hl,h=>by
  unfold Sim.rootsF at h;obtain⟨f,hf,h⟩:=RP.1 h;obtain⟨b,hb,h⟩:=RP.1 h;obtain⟨l2,h2,h⟩:=RP.1 h;cases h;have ih:=RS.rootsF R (λx hx=>hl x (by simp[hx])) h2;intro x hx;rcases Rf.1 hx with rfl | hx
  ·split at hb
   ·exact R.w _ (BM hb)
   ·cases hb;exact hl _ σ
  ·exact ih x hx
theorem RS.thsF (R:RS S):∀{l l' : List Thr},(∀t∈l,RT t)→S.thsF l = some l'→∀t∈l',RT t
 | [],l',_,h=>by cases h;simp
 | t :: r,l',hl,h=>by
  unfold Sim.thsF at h;obtain⟨b,hb,h⟩:=RP.1 h;obtain⟨l2,h2,h⟩:=RP.1 h;cases h;have ih:=RS.thsF R (λx hx=>hl x (by simp[hx])) h2;have T:=hl t σ;intro x hx;rcases Rf.1 hx with rfl | hx
  ·exact⟨R.rootsF T.r hb,T.h,T.g,T.k,T.u,T.v,T.w,T.d⟩
  ·exact ih x hx
theorem RS.finish (R:RS S) (h:S.finish = some S'):RS S':=by
 unfold Sim.finish at h;obtain⟨th,h1,h⟩:=RP.1 h;exact RS.idle (by exact⟨R.w,R.thsF R.t h1,R.c,R.o⟩) h
theorem RS.update (R:RS S) (h:S.update = some S'):RS S':=by
 unfold Sim.update at h;obtain⟨_,h1,h⟩:=RP.1 h;cases h;exact⟨R.w,R.t,⟨Rn.zero,Rn.zero⟩,R.o⟩
end
def Rth (l:List AF):Prop:=∀x∈l,Rn x.at_∧∀n∈x.nums,Rn n
theorem Rn.at_ {w:List Int} {a:Int} (hw:∀x∈w,Rn x) (h:(AZ w a).2 = true):Rn (AZ w a).1.at_∧∀n∈(AZ w a).1.nums,Rn n:=by
 unfold AZ at h ⊢;split
 ·rename_i hf;rw[if_pos hf] at h;dsimp only at h ⊢;split
  ·refine⟨?_,λn hn=>hw n (Sw (SM hn))⟩;unfold fits Ag at hf;simp only[z_b,z_d] at hf;show Rn a;unfold Rn;omega
  ·exact⟨Rn.zero,by simp[Df]⟩
 ·exact⟨Rn.zero,by simp[Df]⟩
theorem Rth.from_ {w:List Int} (hw:∀x∈w,Rn x):∀(n:Nat) {a t:Int} {l:List AF},AX w n a t = some l→Rth l
 | 0,a,t,l,h=>by
  unfold AX at h;split at h
  ·cases h
  ·cases h;intro x hx;cases hx
 | n + 1,a,t,l,h=>by
  unfold AX at h;split at h
  ·dsimp only at h;split at h
   ·rename_i hc;split at h
    ·rename_i hr;cases h;intro x hx;rcases Rf.1 hx with rfl | hx
     ·exact Rn.at_ hw (by simp only[z_b] at hc;exact hc.1)
     ·exact Rth.from_ hw n hr x hx
    ·cases h
   ·cases h
  ·cases h;intro x hx;cases hx
theorem Rth.all {w:List Int} (hw:∀x∈w,Rn x):∀(t:List Rg) (r:Nat) {l:List AF},Ax w r t = some l→Rth l
 | [],r,l,h=>by cases h;intro x hx;cases hx
 | x :: t,r,l,h=>by
  unfold Ax at h;split at h
  ·cases h
  ·rename_i a ha;split at h
   ·cases h
   ·rename_i b hb;cases h;have h1:Rth a:=by
     unfold Ap at ha;split at ha
     ·exact Rth.from_ hw _ ha
     ·cases ha
    have h2:=Rth.all hw t (r + 1) hb;intro y hy;exact (Rq.1 hy).elim (h1 y) (h2 y)
def Rw_ (w:List Int):Prop:=∀x∈w,Rn x
def Rtt (t:List Rg):Prop:=∀x∈t,Rn x.top
theorem Rw_.wr {w w' : List Int} {a v:Int} (R:Rw_ w) (hv:Rn v) (h:Sm.wr w a v = some w'):Rw_ w':=by
 unfold Sm.wr at h;split at h
 ·cases h;exact λx hx=>(Cq hx).elim (R x) λe=>e▸hv
 ·cases h
theorem Rw_.wrs:∀(l:List Int) {w w' : List Int} {a:Int},Rw_ w→(∀x∈l,Rn x)→Sm.wrs w a l = some w'→Rw_ w'
 | [],w,w',a,R,_,h=>by cases h;exact R
 | v :: l,w,w',a,R,hl,h=>by
  unfold Sm.wrs at h;obtain⟨w1,h1,h⟩:=RP.1 h;exact Rw_.wrs l (R.wr (hl v σ) h1) (λx hx=>hl x (by simp[hx])) h
theorem J8 {l:List AF} {a:Int} {x:AF} (h:Al l a = some x):x∈l∧x.at_ = a:=by
 unfold Al at h;exact⟨List.mem_of_find?_eq_some h,by simpa using List.find?_some h⟩
theorem Rw_.stay (s:AU) (hs:Rtt s.AB):∀(l:List AF) {w w' : List Int} {t t' : List Rg},Rth l→Rw_ w→Rtt t→Sm.stay s l w t = some (w',t')→Rw_ w'∧Rtt t'
 | [],w,w',t,t',_,R,T,h=>by cases h;exact⟨R,T⟩
 | x :: l,w,w',t,t',hl,R,T,h=>by
  unfold Sm.stay at h;dsimp only at h;have hl2:Rth l:=λy hy=>hl y (by simp[hy])
  obtain⟨q1,q2⟩:=hl x σ;split at h
  ·obtain⟨w1,h1,h⟩:=RP.1 h;obtain⟨w2,h2,h⟩:=RP.1 h;obtain⟨w3,h3,h⟩:=RP.1 h;obtain⟨row,hr,h⟩:=RP.1 h;obtain⟨_,_,h⟩:=RP.1 h;refine Rw_.stay s hs l hl2 (Rw_.wrs _ ((R.wr q1 h1).wr Rn.shape h2) q2 h3) (λy hy=>?_) h;rcases Cq hy with hy | hy
   ·exact T y hy
   ·rw[hy];exact hs row (BM hr)
  ·exact Rw_.stay s hs l hl2 R T h
theorem No {a b c:Int} (h:Bg a b = some c):Rn c:=by
 unfold Bg at h;split at h
 ·cases h;rename_i q;exact q
 ·cases h
theorem Rw_.slide (AN:List Int) {l:List AF} (hl:Rth l):∀(AQ:List Int) {t t' : List Rg} {r:Int} {to to' : List Int},Rtt t→(∀d∈to,Rn d)→Sm.slide AN l AQ t r to = some (t',to')→∀d∈to',Rn d
 | [],t,t',r,to,to',T,ht,h=>by cases h;exact ht
 | a :: AQ,t,t',r,to,to',T,ht,h=>by
  unfold Sm.slide at h;obtain⟨x,hx,h⟩:=RP.1 h;obtain⟨hm,he⟩:=J8 hx;dsimp only at h;split at h
  ·refine Rw_.slide AN hl AQ T (λd hd=>?_) h;rcases Rq.1 hd with hd | hd
   ·exact ht d hd
   ·rw[Ri.1 hd,← he];exact (hl x hm).1
  obtain⟨r2,hr2,h⟩:=RP.1 h;obtain⟨row,hrow,h⟩:=RP.1 h;obtain⟨top,htop,h⟩:=RP.1 h;refine Rw_.slide AN hl AQ (λy hy=>(Cq hy).elim (T y) λe=>e▸No htop) (λd hd=>?_) h;rcases Rq.1 hd with hd | hd
  ·exact ht d hd
  ·rw[Ri.1 hd];exact T row (BM hrow)
theorem Rw_.refs {l:List AF} {AQ to:List Int} (ht:∀d∈to,Rn d):∀(r:List Int) {w w' : List Int} {a:Int},Rw_ w→Kw l AQ to w a r = some w'→Rw_ w'
 | [],w,w',a,R,h=>by cases h;exact R
 | v :: r,w,w',a,R,h=>by
  unfold Kw at h;obtain⟨n,hn,h⟩:=RP.1 h;dsimp only at h;obtain⟨w1,h1,h⟩:=RP.1 h;refine Rw_.refs ht r ?_ h;split at h1
  ·obtain⟨d,hd,h1⟩:=RP.1 h1;exact R.wr (ht d (BM hd)) h1
  ·cases h1;exact R
theorem Rw_.move {l:List AF} (hl:Rth l) {AQ to:List Int} (ht:∀d∈to,Rn d):∀(la ld:List Int) {w w' : List Int},Rw_ w→(∀d∈ld,Rn d)→IJ l AQ to la ld w = some w'→Rw_ w'
 | [],ld,w,w',R,_,h=>by unfold IJ at h;cases h;exact R
 | a :: la,[],w,w',R,_,h=>by unfold IJ at h;cases h;exact R
 | a :: la,d :: ld,w,w',R,hd,h=>by
  unfold IJ at h;obtain⟨x,hx,h⟩:=RP.1 h;obtain⟨w1,h1,h⟩:=RP.1 h;obtain⟨w2,h2,h⟩:=RP.1 h;obtain⟨w3,h3,h⟩:=RP.1 h;obtain⟨w4,h4,h⟩:=RP.1 h;have R2:=(R.wr (hd d σ) h1).wr Rn.shape h2;exact Rw_.move hl ht la ld (Rw_.wrs _ (Rw_.refs ht _ R2 h3) (hl x (J8 hx).1).2 h4) (λy hy=>hd y (by simp[hy])) h
theorem Rw_.AD {l:List AF} {AQ to:List Int} (ht:∀d∈to,Rn d):∀(r:List Int) {r' : List Int},FC l AQ to r = some r'→∀a∈r',Rn a
 | [],r',h=>by cases h;simp
 | a :: r,r',h=>by
  unfold FC at h;obtain⟨n,hn,h⟩:=RP.1 h;dsimp only at h;obtain⟨b,hb,h⟩:=RP.1 h;obtain⟨r2,h2,h⟩:=RP.1 h;cases h;have ih:=Rw_.AD ht r h2;intro x hx;rcases Rf.1 hx with rfl | hx
  ·split at hb
   ·cases hb;exact Rn.zero
   ·exact ht _ (BM hb)
  ·exact ih x hx
theorem Rw_.ths {l:List AF} {AQ to:List Int} (ht:∀d∈to,Rn d):∀(r:List Th) {r' : List Th},He l AQ to r = some r'→∀t∈r',∀a∈t.AD,Rn a
 | [],r',h=>by cases h;simp
 | t :: r,r',h=>by
  unfold He at h;obtain⟨ro,hro,h⟩:=RP.1 h;obtain⟨r2,h2,h⟩:=RP.1 h;cases h;have ih:=Rw_.ths ht r h2;intro x hx;rcases Rf.1 hx with rfl | hx
  ·exact Rw_.AD ht _ hro
  ·exact ih x hx
theorem Rtt.new (n:Int):Rtt (AC n):=by
 unfold AC;split
 ·intro x hx;cases hx
 ·intro x hx;rcases Rf.1 hx with rfl | hx
  ·exact Rn.zero
  ·obtain⟨k,hk,rfl⟩:=S6.1 hx;show Rn (AG _);unfold AG;split
   ·exact Rn.zero
   ·unfold Rn;omega
theorem LE {s s' : AU} (hw:Rw_ s.AE) (ht:Rtt s.AB) (h:LI s = some s'):Rw_ s'.AE∧∀t∈s'.A9,∀a∈t.AD,Rn a:=by
 unfold LI at h;dsimp only at h;obtain⟨lv,h1,h⟩:=RP.1 h;obtain⟨⟨w1,t1⟩,h2,h⟩:=RP.1 h;obtain⟨⟨t2,to⟩,h3,h⟩:=RP.1 h;obtain⟨w2,h4,h⟩:=RP.1 h;obtain⟨th,h5,h⟩:=RP.1 h;obtain⟨fu,h6,h⟩:=RP.1 h;cases h;have hl:Rth ((B7 s).getD []):=by
  cases hs:B7 s with
  | none=>intro x hx;cases hx
  | some l=>exact Rth.all hw _ _ hs
 obtain⟨a1,a2⟩:=Rw_.stay s ht _ hl (λx hx=>by rw[(SG.1 hx).2];exact Rn.zero) (Rtt.new _) h2;have a3:=Rw_.slide s.AN hl _ a2 (λd hd=>by cases hd) h3;exact⟨Rw_.move hl a3 _ _ a1 a3 h4,Rw_.ths a3 _ h5⟩
section
variable {S S' : Sim} {i a v:Int}
theorem RS.pause {n:Nat} (R:RS S) (T:Rtt S.AB) (h:S.pause n = some S'):RS S':=by
 unfold Sim.pause at h;split at h
 ·cases h
 split at h
 ·obtain⟨s,h1,h⟩:=RP.1 h;cases h;obtain⟨a1,a2⟩:=LE (s:=S.view) R.w T h1;refine⟨a1,λt ht=>?_,RC.zero _ _,R.o⟩;obtain⟨t',ht',rfl⟩:=S6.1 ht;exact RT.thr0 (a2 t' ht')
 dsimp only at h;have R1:RS { S with stop:=false }:=⟨R.w,R.t,R.c,R.o⟩;split at h
 ·cases h;exact⟨R.w,R.t,⟨Rn.zero,Rn.zero⟩,R.o⟩
 split at h
 ·exact R1.choose h
 split at h
 ·exact R1.update h
 ·exact R1.finish h
theorem RS.pick (R:RS S) (T:Rtt S.AB) {p:Int} (h:S.pick p = some S'):RS S':=by
 unfold Sim.pick at h;split at h
 ·exact R.thread h
 split at h
 ·unfold Sim.collector at h;split at h
  ·split at h
   ·exact R.pause T h
   ·cases h;exact R
  split at h
  ·split at h
   ·cases h;exact⟨R.w,R.t,⟨R.c.w,R.c.d⟩,R.o⟩
   ·cases h;exact R
  ·exact RS.cloop _ (by exact⟨R.w,R.t,R.c,R.o⟩) h
 split at h
 ·cases h;exact⟨R.w,R.t,⟨R.c.w,R.c.d⟩,R.o⟩
 ·cases h;exact R
end
end Sm
end
section
namespace Go.Lf
open Go Sm
def sel (l:List Int) (x:Int):Int:=l.getD x.toNat 0
theorem LF (l:List Int) {x:Int} (h0:0≤x) (h1:x < l.length):(l.map I)[0 + x.toNat * 1]? = some (I (sel l x)):=by
 have:x.toNat < l.length:=ω
 simp[sel,this]
theorem PQ {l:List Int} {x:Int} (h0:0≤x) (h1:x < l.length):sel l x∈l:=by
 have:x.toNat < l.length:=ω
 simp[sel,this]
theorem jsb {R:RM} {D:Chs} {v:Value} {w n:Nat} {u:Int} {k:Value→M} (h:Bsl R v n) (h0:0≤u) (h1:u≤n) (H:∀v',Bsl R v' u.toNat→J R D (k v')):J R D (SL w v none (some (I u)) k):=by
 obtain⟨a,cap,rfl,hn,h2⟩:=h;intro h' hs;refine⟨⟨h0,ω⟩,H _ ⟨a,cap,rfl,ω,?_⟩ h' hs⟩;rcases h2 with h3 | ⟨b,o,h2,h3⟩
 ·exact .inl ω
 ·exact .inr ⟨b,o,h2,λi hi=>h3 i ω⟩
theorem Bsl.sl {R:RM} {v:Value} {n:Nat} (h:Bsl R v n):∃a c,v = .slice a n c:=by obtain⟨a,c,h1,_⟩:=h;exact⟨a,c,h1⟩
def Dr (f:Nat) (args:List Value) (R:RM) (rb:Nat) (v:Value) (m c:Int) (q:Value→RM→Prop):Prop:=
 Fn P f args R [(rb,rdO v m)] (λx R' A=>R.le R'∧q x R'∧∃m',m≤m'∧m'≤m + c∧A = [(rb,rdO v m')])
theorem jdr {R:RM} {D E:Chs} {f rb:Nat} {args:List Value} {v:Value} {m c:Int} {q:Value→RM→Prop} {k:Value→M} (hF:Dr f args R rb v m c q) [t:Tk D rb (rdO v m) E] (H:∀x R' m',R.le R'→q x R'→m≤m'→m'≤m + c→J R' ((rb,rdO v m') :: E) (k x)) :
  J R D (CA P f args k):=by
 refine jc hF ?_;rintro x R' _ _ ⟨h1,h2,m',h3,h4,rfl⟩;exact H x R' m' h1 h2 h3 h4
theorem PS {R R' : RM} {D E F:Chs} {rb:Nat} {v x:Value} {m c:Int} {q:Value→RM→Prop} (m' : Int) [t:Tk D rb (rdO v m') E] [s:Sf E F] (h1:R.le R') (h2:q x R') (h3:m≤m') (h4:m'≤m + c) :
  J R' D (Fr R F (λx R' A=>R.le R'∧q x R'∧∃m',m≤m'∧m'≤m + c∧A = [(rb,rdO v m')]) x):=by
 intro h hs;exact AV h1 ⟨h1,h2,m',h3,h4,rfl⟩ h (hs.perm t.p)
theorem jk1 {R:RM} {D G F:Chs} {o:Obj} {m:M} (b:Nat) [t:Tk D b o G] [s:Sf G F] (H:J R ((b,o) :: F) m):J R D m:=by
 intro h hs;obtain⟨X,hX⟩:=s.p;subst hX;exact H h (((hs.perm t.p).perm Se.symm).drop)
theorem MT {R:RM} {v:Value} {n:Nat} (h:Bsl R v n) :
  Fn P Gz [v] R [] (λx R' A=>R' = R∧∃rb v',x = Pt rb∧A = [(rb,rdO v' 0)]∧Byt R v'):=by
 refine KV λF=>?_
 refine z_1 ?_;obtain⟨a,cap,hv⟩:=h.sl;refine Aw (λvs R' D'=>R' = R∧D' = [] ++ F∧∃v',Byt R v'∧vs = [v']) (λK hK=>?_) ?_
 ·refine Bh h.sl (jgr (jif (λh1=>?_) (λh1=>?_)))
  ·have h1:=z_f h1;refine jsb h ω ω λv' hv'=>(hK _ _ _ ⟨rfl,rfl,v',?_,rfl⟩)
   obtain⟨a',c',e⟩:=hv'.sl;exact⟨a',_,c',e,hv',δ⟩
  ·have h1:=z_g h1;exact hK _ _ _ ⟨rfl,rfl,v,⟨a,n,cap,hv,h,ω⟩,rfl⟩
 rintro e R1 D1 ⟨hR,hD,v',hv',he⟩;subst hR;refine z_W ?_;obtain⟨a',n',c',hv2,-⟩:=id hv';subst hv2;refine jbd (cs:=[.slice a' n' c',I 0]) rfl rfl (ja λb=>(AV (RM.le.refl _) ⟨rfl,b,_,rfl,rfl,hv'⟩))
section draws
variable {R:RM} {rb:Nat} {v:Value} {m:Int}
theorem J2 (hb:Byt R v) (hm:0≤m∧m < 500000000):Dr Ek [Pt rb] R rb v m 3 (λx R'=>R' = R∧∃c:Cfg,x = .agg #[I c.A8,I c.A9,I c.AH]∧B9 c = true):=by
 refine Hm λF=>?_
 refine z_1 ?_;refine ja λb=>(jpk hb ⟨ω,ω⟩ λx1 _ _=>jad (jpk hb ⟨ω,ω⟩ λx2 _ _=>jad (jbs rfl rfl λb6=>(jpk hb ⟨ω,ω⟩ λx3 _ _=>jia ω ω ?_))))
 have h3:=PQ (l:=[16,32,0,8,100]) ω (by show _ < (5:Int);omega);refine jl (LF [16,32,0,8,100] ω (by show _ < (5:Int);omega)) ?_;generalize sel [16,32,0,8,100] x3 = y at h3;refine jbd rfl rfl (js rfl rfl σ rfl (jla (by exact z_n 3) rfl (PS _ (RM.le.refl _) ⟨rfl,⟨4 + x1,1 + x2,y⟩,rfl,?_⟩ ω ω)));simp only[Rf,List.not_mem_nil,or_false] at h3;simp only[B9,z_b,z_d];omega
end draws
section draws
variable {R:RM} {rb:Nat} {v:Value} {m:Int}
end draws
theorem KO {R:RM} {D D1 A E:Chs} {t w by_ b m cx:Nat} {rows:List (List Value)} {cs:List Value} {v:Value} {zs:List Value} {k:Value→M} (rows2:List (List Value)) (so:SW t w rows v A) [tk:Tk D b (C t cs) D1] [sp:Sp D1 A E] (hcs:cs = rows2.flatten)
  (hw:∀r∈rows,r.length = w) (hw2:∀r∈rows2,r.length = w) (hz:zs.length = w) (hf:BU rows2.flatten = true) (hm:m = rows2.length) (hb:by_≠0) (hl:by_ * (2 * (rows.length + rows2.length) + 200)≤2 ^ 48)
  (H:∀v' A',SW t w (rows ++ rows2) v' A'→J R (A' ++ E) (k v')):J R D (AP t w by_ zs v (S0 b m cx) k):=by
 subst hcs;intro h hs;have h1:=(hs.perm tk.p).perm ((sp.p.cons _).trans Se.symm);refine jaw so hw hw2 hz hf hm hb hl ?_ (λv' A' so'=>Bq Se (BH (H v' A' so'))) h h1;have:=BB.held (R:=R) (D:=A ++ (b,C t rows2.flatten) :: E) (b:=b) (o:=0) (n:=m * w) (by rw[BI hw2,hm];omega);rw[TG,RX (by rw[BI hw2,hm];omega)] at this;exact this
def Vs (l:List Sm.Op):Prop:=∀o∈l,Rn o.v
theorem Vs.app {l l' : List Sm.Op} (h:Vs l) (h' : Vs l'):Vs (l ++ l'):=λo ho=>(Rq.1 ho).elim (h o) (h' o)
theorem Vs.nil:Vs []:=λo ho=>by cases ho
theorem Vs.one {o:Sm.Op} (h:Rn o.v):Vs [o]:=λx hx=>by rw[Ri.1 hx];exact h
section draws
variable {R:RM} {rb:Nat} {v:Value} {m:Int}
end draws
theorem IK.le {R R' : RM} {v:Value} {l:List (List Sm.Op)} (h:R.le R') (H:IK R v l):IK R' v l:=by
 obtain⟨vs,h1,h2,h3⟩:=H;exact⟨vs,h1.le h,h2,λi hi=>by obtain⟨x,hx,ho⟩:=h3 i hi;exact⟨x,hx,ho.le h⟩⟩
def PrW (R:RM) (rows:List (List Value)) (l:List (List Sm.Op)):Prop:=Rw (λrow p=>∃x,row = [x]∧Ops R x p) rows l
theorem PrW.len {R:RM} {rows:List (List Value)} {l:List (List Sm.Op)} (h:PrW R rows l):∀r∈rows,r.length = 1:=h.all λ_ _ ⟨_,hx,_⟩=>by rw[hx];rfl
theorem PrW.le {R R' : RM} {rows:List (List Value)} {l:List (List Sm.Op)} (hr:R.le R') (h:PrW R rows l):PrW R' rows l:=h.mono λ_ _ ⟨x,h1,h2⟩=>⟨x,h1,h2.le hr⟩
section draws
variable {R:RM} {rb:Nat} {v:Value} {m:Int}
end draws
theorem SO.sln {l:List Int} {v:Value} {A:Chs} (h:SO l v A):∃a c,v = .slice a l.length c:=by
 rcases h with ⟨rfl,rfl,_⟩ | ⟨b,c,sp,_,_,rfl,_⟩<;>exact⟨_,_,rfl⟩
section draws
variable {R:RM} {rb:Nat} {v:Value} {m:Int}
end draws
section draws
variable {R:RM} {rb:Nat} {v:Value} {m:Int}
end draws
section draws
variable {R:RM} {rb:Nat} {v:Value} {m:Int}
theorem IK.sl {v:Value} {l:List (List Sm.Op)} (H:IK R v l):∃a c,v = .slice a l.length c:=by
 obtain⟨vs,h,_⟩:=H;exact h.sl
end draws
structure StB (r:Nat) (s:Sm.AU):Prop where
 wr:∀x∈s.AE,Rn x
 wl:s.AE.length = 16 * s.AB.length
 t0:2≤s.AB.length
 t1:s.AB.length≤12
 tp:∀x∈s.AB,-100 * (r:Int)≤x.top∧x.top≤100 * r
 n0:1≤s.A9.length
 n1:s.A9.length≤3
 rl:∀t∈s.A9,t.AD.length≤r
 pl:s.AN.length≤8
 pv:∀a∈s.AN,0≤a∧a≤1000
 ol:s.old.length≤100000
 ml:s.AS.length = s.AE.length
 cy:0≤s.C4∧s.C4≤100000
 fu:0≤s.Cl∧s.Cl≤100000
theorem StB.mono {s:Sm.AU} (h:StB 8 s):StB 9 s:={ h with rl:=λt ht=>(by have:=h.rl t ht;omega),tp:=λx hx=>(by have:=h.tp x hx;omega) }
theorem StB.row {s:Sm.AU} (h:StB 8 s) (k:Nat) {x:Rg} (h0:-900≤x.top) (h1:x.top≤900):StB 9 { s with AB:=s.AB.set k x }:=
 { h.mono with wl:=by simpa using h.wl,t0:=by simpa using h.t0,t1:=by simpa using h.t1,tp:=λy hy=>(by
   rcases TL hy with hy | hy
   ·exact h.mono.tp y hy
   ·subst hy;omega) }
theorem SW.flat {t w:Nat} {rows:List (List Value)} {v:Value} {A:Chs} (h:SW t w rows v A):flat v = true:=by
 obtain⟨a,c,e⟩:=h.sl;rw[e];rfl
section draws
variable {R:RM} {rb:Nat} {v:Value} {m:Int}
end draws
section draws
variable {R:RM} {rb:Nat} {v:Value} {m:Int}
end draws
theorem MO (a:Addr) (n c:Nat) (w:World):(Builtin.clear_ #[23] 0 #[.slice (some a) (n + 1) c]).run P w = (do storeCells a (Builtin.zeroCells #[I 0] (n + 1)).toList;pure (.tuple #[]):Sem Value).run P w:=by
 kernel_rfl
theorem Px (x y:Operand) (a:Addr) (n c:Nat) (w:World):(do eqGuard .eql 23 x y (.slice (some a) n c) (SN);binOp .eql 23 (.slice (some a) n c) (SN):Sem Value).run P w = .ok (.bool false) w:=by kernel_rfl
theorem Oe (x y:Operand) (w:World):(do eqGuard .eql 23 x y (SN) (SN);binOp .eql 23 (SN) (SN):Sem Value).run P w = .ok (.bool true) w:=by kernel_rfl
theorem O6 (a b:Addr) (n c m d:Nat) (w:World):(Builtin.copy_ #[23,23] 3 #[.slice (some a) n c,.slice (some b) m d]).run P w = (do let cells ← loadCells b (Nat.min m n * 1);storeCells a cells.toList;pure (goInt (Nat.min m n)):Sem Value).run P w:=by
 kernel_rfl
theorem Kc (n:Nat):(Builtin.zeroCells #[I 0] n).toList = List.replicate n (I 0):=by
 unfold Builtin.zeroCells;rw[Array.toList_map];apply List.ext_getElem
 ·simp
 ·intro i h1 h2;simp[Nat.mod_one]
section rules
variable {R:RM} {D:Chs} {k:Value→M}
theorem jX {s:Sem Value} (H:∀h,St h R D→∀w:World,w.heap = h→∃v w',s.run P w = .ok v w'∧Aa w w'∧k v w'.heap):J R D (X P s k):=λh hs w hw=>by
 obtain⟨v,w',e,hsm,hk⟩:=H h hs w hw;rw[e];exact⟨hsm,hk⟩
theorem PR {b o n c t:Nat} {cs cs' : List Value} {D' : Chs} (hn:0 < n) [a:At D b (C t cs)] (ho:o + n≤cs.length) (hc:lay cs o (List.replicate n (I 0)) = cs') [u:Up D b (C t cs) (C t cs') D'] (H:J R D' (k (.tuple #[]))) :
  J R D (X P (Builtin.clear_ #[23] 0 #[.slice (some ⟨b,o,none⟩) n c]) k):=by
 have hk:∀h,St h R D→∀w:World,w.heap = h→∃v w',(Builtin.clear_ #[23] 0 #[.slice (some ⟨b,o,none⟩) n c]).run P w = .ok v w'∧Aa w w'∧k v w'.heap:=by
  intro h hs w hw;subst hw;obtain⟨n,rfl⟩:∃m,n = m + 1:=⟨n - 1,ω⟩;obtain⟨h',w1,w2,w3⟩:=FG (List.replicate (n + 1) (I 0)) o (hs.at_ b _ a.m).1 (by rw[S7];exact ho) (by unfold BU;rw[Rs];intro x hx;rw[(SG.1 hx).2];rfl);obtain⟨w',e1,hsm,e2⟩:=DY (P:=P) b (List.replicate (n + 1) (I 0)) o 0 w h' w1;refine⟨.tuple #[],w',?_,hsm,?_⟩
  ·rw[MO,Kc];simp only[Rb,e1,RR];rfl
  ·rw[e2];exact H h' (hs.turn (by rw[w2,hc]) w3)
 exact @jX _ _ _ _ hk
theorem OZ {b o n c t m d:Nat} {xa:Addr} {l cs cs' : List Value} {D' : Chs} (hx:BB R D (some xa) (Nat.min m n * 1) l) (hl:l.length = Nat.min m n) (hf:BU l = true) [a:At D b (C t cs)] (ho:o + l.length≤cs.length) (hc:lay cs o l = cs') [u:Up D b (C t cs) (C t cs') D']
  (H:J R D' (k (I (Nat.min m n:Nat)))):J R D (X P (Builtin.copy_ #[23,23] 3 #[.slice (some ⟨b,o,none⟩) n c,.slice (some xa) m d]) k):=by
 have hk:∀h,St h R D→∀w:World,w.heap = h→∃v w',(Builtin.copy_ #[23,23] 3 #[.slice (some ⟨b,o,none⟩) n c,.slice (some xa) m d]).run P w = .ok v w'∧Aa w w'∧k v w'.heap:=by
  intro h hs w hw;subst hw;obtain⟨h',w1,w2,w3⟩:=FG l o (hs.at_ b _ a.m).1 ho hf;obtain⟨w',e1,hsm,e2⟩:=DY (P:=P) b l o 0 w h' w1;have hr:rdS w.heap (some xa) (Nat.min m n * 1) = some l:=hx _ hs;obtain⟨xb,xo,xs⟩:=xa;cases xs with
  | some _=>cases hr
  | none=>
  have hr:rd w.heap xb xo (Nat.min m n * 1) = some l:=hr;refine⟨I (Nat.min m n:Nat),w',?_,hsm,?_⟩
  ·rw[O6];simp only[Rb,Ep hr,RR,e1];rfl
  ·rw[e2];exact H h' (hs.turn (by rw[w2,hc]) w3)
 exact @jX _ _ _ _ hk
theorem QP {v:Value} {w n:Nat} {cells:List Value} {x y:Operand} (h:Fz R v w n cells) (H0:v = SN→n = 0→cells = []→J R D (k (.bool true))) (H1:J R D (k (.bool false))):J R D (X P (do eqGuard .eql 23 x y v (SN);binOp .eql 23 v (SN)) k):=by
 rcases h with ⟨rfl,h2,h3⟩ | ⟨b,o,cap,t,cs,rfl,_⟩
 ·intro h hs w hw;rw[Oe];subst hw;exact⟨Aa.refl _,H0 rfl h2 h3 _ hs⟩
 ·intro h hs w hw;rw[Px];subst hw;exact⟨Aa.refl _,H1 _ hs⟩
theorem QE {v:Value} {l:List Int} {lo u:Int} (h:Ai R v l) (h0:0≤lo) (h1:lo≤u) (h2:u≤l.length) (H:∀v',Ai R v' ((l.take u.toNat).drop lo.toNat)→J R D (k v')):J R D (SL 1 v (some (I lo)) (some (I u)) k):=by
 rcases h with ⟨rfl,h3,_⟩ | ⟨b,o,cap,t,cs,rfl,h3,h4,h5,h6⟩
 ·intro h' hs;refine⟨⟨h0,h1,ω⟩,H _ ?_ h' hs⟩;have e:l = []:=Sj.1 h3;have e1:u = 0:=ω
  have e2:lo = 0:=ω
  rw[e,e1,e2];exact .inl ⟨rfl,σ,σ⟩
 ·intro h' hs;refine⟨⟨h0,h1,ω⟩,H _ ?_ h' hs⟩;by_cases c:cap = lo.toNat
  ·have hl:l.length = lo.toNat:=ω
   have e1:u.toNat = lo.toNat:=ω
   have e2:((l.take u.toNat).drop lo.toNat).length = 0:=by rw[SR,Rk];omega
   refine .inr ⟨b,o,cap - lo.toNat,t,cs,?_,h3,?_,?_,?_⟩
   ·rw[if_pos c,e2,e1,Nat.sub_self]
   ·rw[e2];omega
   ·rw[Sj.1 e2];simp
   ·rw[e2];omega
  ·refine .inr ⟨b,o + lo.toNat * 1,cap - lo.toNat,t,cs,?_,h3,?_,?_,?_⟩
   ·rw[if_neg c];simp;omega
   ·simp only[SR,Rk];omega
   ·simp only[SR,Rk];rw[List.map_drop,List.map_take,← h5,List.take_take,List.drop_take,List.drop_drop];congr 1
    ·omega
    ·congr 1;omega
   ·simp only[SR,Rk];omega
theorem Qp {v:Value} {l:List Int} (h:Ai R v l) (hl:l.length < 1000000) (H:∀v' b c sp,l.length≤c→sp.length = c - l.length→v' = S0 b l.length c→J R ((b,C AW (l.map I ++ sp)) :: D) (k v')) :
  J R D (BS 3 0 (ZR 0 z3) [] λx=>AP 3 1 8 (cl z3) x v k):=by
 obtain⟨a,cap,rfl,hr⟩:=Fz.reads h;refine jbs (cs:=[]) rfl rfl λb2=>(PC (new:=l.map I) ?_ δ ω (λ_=>rfl) (λh0=>?_) (λb' c hc=>Bq (T8 _ _ _) (BH ?_)))
 ·intro h' hs';exact hr h' (St.drop (A:=[(b2,C 3 [])]) (by simpa using hs'))
 ·have:l = []:=Sj.1 h0;subst this;exact H _ b2 0 [] σ σ rfl
 ·exact H _ b' c _ hc (by rw[BI (w:=1) (by intro x hx;rw[(SG.1 hx).2];rfl)];simp) rfl
end rules
theorem Bj {R:RM} {v:Value} {l:List Int} (h:Ai R v l) (hl:l.length < 1000000):Fn P DB [v] R [] (λx R' A=>R' = R∧SO l x A∧(0 < l.length→PJ l x A)):=by
 refine Ez λF=>?_
 refine z_1 ?_;refine QP h (λ_ h0 _=>Dv ?_) (C9 ?_)
 ·have:l = []:=Sj.1 h0;subst this;exact AV (RM.le.refl R) ⟨rfl,.inl ⟨rfl,rfl,rfl⟩,σ⟩
 ·refine Qp h hl λv' b c sp hc hsp hv=>(AV (RM.le.refl R) ⟨rfl,.inr ⟨b,c,sp,hc,hsp,hv,rfl⟩,λ_=>⟨b,c,sp,hc,hsp,hv,rfl⟩⟩)
theorem Bn (r:Int):Pu EC [I r] (I (AG r)):=λR=>HQ λF=>Ff r R F
theorem D7 (s:Shp):Pu GG [eSh s] (.bool (Ad s)):=λR=>JE λF=>II s R F
theorem I0 (s:Shp):Pu Ed [eSh s] (I (Au s)):=by
 intro R;refine Ht λF=>?_
 refine z_1 ?_;refine ja λb=>jla (l:=[I s.refs,I s.nums]) σ rfl (jp (D7 s) (jif (λh=>?_) (λh=>?_)))
 ·refine AV (A:=[]) (RM.le.refl _) ?_;simp only[Rt] at h;simp[Au,h]
 ·simp only[Sl] at h;obtain⟨h0,h1,h2,h3⟩:=Bm.1 h;refine jl rfl (Fw ⟨ω,ω⟩ (jl rfl (jad (AV (A:=[]) (RM.le.refl _) ?_))));simp[Au,h]
theorem Bx (s:Shp):Pu Ej [eSh s] (I (AA s)):=by
 intro R;refine I5 λF=>?_
 refine z_1 ?_;refine ja λb=>jla (l:=[I s.refs,I s.nums]) σ rfl (jp (D7 s) (jif (λh=>?_) (λh=>?_)))
 ·refine AV (A:=[]) (RM.le.refl _) ?_;simp only[Rt] at h;simp[AA,h]
 ·simp only[Sl] at h;obtain⟨h0,h1,h2,h3⟩:=Bm.1 h;refine jl rfl (jad (jl rfl (jad (AV (A:=[]) (RM.le.refl _) ?_))));simp[AA,h]
theorem Jz {w:Int} (hw:inR w):Pu GE [I w] (.tuple #[eSh (AT w).1,.bool (AT w).2]):=by
 intro R;refine JG λF=>?_
 refine z_1 ?_;refine ja λb=>jlt (jif (λh=>?_) (λh=>?_))
 ·have h:=z_f h;refine jbd rfl rfl (js (cs':=[I 0,I 0]) rfl rfl σ rfl (jla σ rfl (AV (A:=[]) (RM.le.refl _) ?_)));unfold AT;rw[if_neg ω];rfl
 ·have h:=z_g h;have e1:w.tdiv 16 = w / 16:=SQ ω;have e2:w.tmod 16 = w % 16:=Sz ω;refine Jo δ (by rw[e1];constructor<;>omega) (JB δ ?_);rw[e1,e2];refine jbd rfl rfl (ja λb2=>js (cs':=[I (w / 16),I (w % 16)]) rfl rfl σ rfl (jla (l:=[I (w / 16),I (w % 16)]) σ rfl (jp (D7 ⟨w / 16,w % 16⟩) ?_)));have ek:Ad ⟨w / 16,w % 16⟩ = decide (0≤w∧w / 16≤4∧w % 16≤4):=by
   rw[Sa,Bm,z_d];show 0≤w / 16∧w / 16≤4∧0≤w % 16∧w % 16≤4↔_;omega
  rw[ek];refine jif (λhk=>?_) (λhk=>?_)
  ·have hk:¬ (0≤w∧w / 16≤4∧w % 16≤4):=by
    rw[Rt,decide_eq_false_iff_not] at hk;exact hk
   refine jbd rfl rfl (js (cs':=[I 0,I 0]) rfl rfl σ rfl (jla σ rfl (AV (A:=[]) (RM.le.refl _) ?_)));unfold AT;rw[if_neg hk];rfl
  ·have hk:0≤w∧w / 16≤4∧w % 16≤4:=by simpa using hk
   refine jla σ rfl (js (cs':=[I (w / 16),I (w % 16)]) rfl rfl σ rfl (jla (l:=[I (w / 16),I (w % 16)]) σ rfl (AV (A:=[]) (RM.le.refl _) ?_)));unfold AT;rw[if_pos hk]
theorem EA (a:Option Addr) (n c:Nat) (hn:n < 1000000000000):Pu G8 [.slice a n c] (.bool (Ag n)):=by
 intro R;refine J5 λF=>?_
 refine z_1 ?_;have er:(n:Int).tmod 16 = (n % 16:Nat):=by rw[Sz ω];omega
 refine jan [.slice a n c] (((n:Int).tmod 16 == 0) && (decide ((n:Int)≥32))) (λK' hK'=>?_) (λe c u ho he=>?_)
 ·refine jln (JB δ (jeq (Bc (λh1=>?_) (λh1=>?_))))
  ·refine jln (jge (hK' _ _ _ (h1▸Ac) (by rw[h1,Rj])))
  ·exact hK' _ _ _ (h1▸Aj) (by rw[h1,Rl])
 refine z_V ?_;refine jan [] ((((n:Int).tmod 16 == 0) && decide ((n:Int)≥32)) && (decide ((n:Int)≤192))) (λK' hK'=>?_) (λe c u ho he=>?_)
 ·rw[ho];refine Bc (λh1=>?_) (λh1=>?_)
  ·refine jln (jle (hK' _ _ _ (h1▸Ac) (by rw[h1,Rj])))
  ·exact hK' _ _ _ (h1▸Aj) (by rw[h1,Rl])
 refine z_V ?_;rw[ho];refine AV (A:=[]) (RM.le.refl R) ?_;congr 1;unfold Ag;rw[er,Sa];simp only[z_b,z_d,beq_iff_eq];constructor<;>rintro⟨⟨h1,h2⟩,h3⟩<;>exact⟨⟨ω,ω⟩,ω⟩
theorem HS (x:Option Addr) (n cc:Nat) (a size:Int) (hn:n < 1000000000000) (h0:1≤size) (h1:size≤16):Pu JS [.slice x n cc,I a,I size] (.bool (fits n a size)):=by
 intro R;refine NJ λF=>?_
 refine z_3 ?_;refine jan [.slice x n cc,I a,I size] (Ag n && decide (a≥16)) (λK' hK'=>?_) (λe c u ho he=>?_)
 ·refine jp (EA x n cc hn) (Bc (λh1=>jge (hK' _ _ _ (h1▸Ac) (by rw[h1,Rj]))) (λh1=>hK' _ _ _ (h1▸Aj) (by rw[h1,Rl])))
 refine z_V ?_;refine jan [I a,I size] ((Ag n && decide (a≥16)) && decide (a < n)) (λK' hK'=>?_) (λe c u ho he=>?_)
 ·rw[ho];exact Bc (λh1=>jln (jlt (hK' _ _ _ (h1▸Ac) (by rw[h1,Rj])))) (λh1=>hK' _ _ _ (h1▸Aj) (by rw[h1,Rl]))
 refine z_V ?_;refine jan [] (((Ag n && decide (a≥16)) && decide (a < n)) && decide (a.tmod 16 + size≤16)) (λK' hK'=>?_) (λe c u ho he=>?_)
 ·rw[ho];refine Bc (λh1=>JB δ ?_) (λh1=>hK' _ _ _ (h1▸Aj) (by rw[h1,Rl]));have h2:=h1;simp only[z_b,z_d] at h2;have e2:a.tmod 16 = a % 16:=Sz ω;exact Lp (by rw[e2];constructor<;>omega) (jle (hK' _ _ _ (h1▸Ac) (by rw[h1,Rj])))
 refine z_V ?_;rw[ho];refine AV (A:=[]) (RM.le.refl R) ?_;congr 1;unfold fits;rw[Sa];simp only[z_b,z_d,beq_iff_eq];have hr:16≤a→(AI a = AI (a + size - 1)↔a.tmod 16 + size≤16):=λha=>by
  rw[Sz ω];unfold AI;rw[if_neg ω,if_neg ω];omega
 constructor
 ·rintro⟨⟨⟨q0,q1⟩,q2⟩,q3⟩;exact⟨⟨⟨⟨⟨q0,ω⟩,h1⟩,q1⟩,q2⟩,(hr q1).2 q3⟩
 ·rintro⟨⟨⟨⟨⟨q0,_⟩,_⟩,q1⟩,q2⟩,q3⟩;exact⟨⟨⟨q0,q1⟩,q2⟩,(hr q1).1 q3⟩
theorem Qx {R:RM} {D:Chs} {b o len cap n:Nat} {lo u:Int} {k:Value→M} (h0:0≤lo) (h1:lo≤u) (h2:u≤cap) (h3:lo < cap) (H:J R D (k (.slice (some ⟨b,o + lo.toNat * n,none⟩) (u.toNat - lo.toNat) (cap - lo.toNat)))) :
  J R D (SL n (.slice (some ⟨b,o,none⟩) len cap) (some (I lo)) (some (I u)) k):=λh hs=>by
 refine⟨⟨h0,h1,h2⟩,?_⟩;rw[if_neg ω];exact H h hs
theorem Hu {R:RM} {wv:Value} {w:List Int} (a:Int) (s:Shp) (h:Ai R wv w) (hl:w.length < 1000000) :
  Fn P Ef [wv,I a,eSh s] R [] (λv R' A=>R' = R∧QMk (Am w a s) v A):=by
 refine I3 λF=>?_
 refine z_3 ?_;obtain⟨wa,wc,hwv⟩:=h.sl;refine ja λb1=>?_
 rw[show cl (eSh s) = [I s.refs,I s.nums] from rfl];refine jor [wv,I a,Pt b1] (!fits w.length a (AA s)) (λK' hK'=>?_) (λe c u ho he=>?_)
 ·refine jla (l:=[I s.refs,I s.nums]) σ rfl (jp (D7 s) (BT (λh1=>?_) (λh1=>?_)))
  ·have h1:Ad s = true:=by simpa using h1
   obtain⟨q0,q1,q2,q3⟩:=Bm.1 h1;have hsz:AA s = 2 + s.refs + s.nums:=by unfold AA;rw[if_pos h1]
   refine jla (l:=[I s.refs,I s.nums]) σ rfl (jp (Bx s) ?_);rw[hwv];refine jp (HS wa w.length wc a (AA s) ω ω ω) ?_;rw[← hwv,h1];exact hK' _ _ _ AY rfl
  ·have h1:Ad s = false:=by simpa using h1
   rw[h1];refine hK' _ _ true Ao ?_;have:AA s = 0:=by unfold AA;rw[h1];rfl
   unfold fits;rw[this];simp
 refine z_V ?_;rw[ho];refine jif (λh0=>?_) (λh0=>?_)
 ·have h0:fits w.length a (AA s) = false:=by simpa using h0
  refine AV (A:=[]) (RM.le.refl R) ⟨rfl,?_⟩;have:Am w a s = ([],false):=by unfold Am;rw[h0];rfl
  rw[this];exact⟨rfl,rfl⟩
 have h0:fits w.length a (AA s) = true:=by simpa using h0
 obtain⟨a0,a1,a2,a3⟩:=Dc h0;have hso:Ad s = true:=by
  unfold AA at a2;split at a2
  ·assumption
  ·omega
 obtain⟨q0,q1,q2,q3⟩:=Bm.1 hso;have hsz:AA s = 2 + s.refs + s.nums:=by unfold AA;rw[if_pos hso]
 obtain⟨n,rfl⟩:∃n:Nat,a = n:=⟨a.toNat,ω⟩;obtain⟨z,hz⟩:∃z:Nat,AA s = z:=⟨(AA s).toNat,ω⟩;have em:=FH h0 hso hz;refine jc (Bj h hl) ?_;rintro _ R1 _ _ ⟨hR1,-,hown⟩;subst hR1;obtain⟨b,c,sp,hc,hsp,rfl,rfl⟩:=hown ω;refine jla (l:=[I s.refs,I s.nums]) σ rfl (jp (Bx s) ?_);rw[hz] at a1 a2 a3 ⊢;refine jad (Qx ω ω ω ω ?_);obtain⟨cur,hcur⟩:∃cur:List Int,cur = w.take n ++ List.replicate z 0 ++ w.drop (n + z):=⟨_,rfl⟩;have hcl:cur.length = w.length:=by rw[hcur];simp;omega
 have elay:lay (w.map I ++ sp) (0 + (n:Int).toNat * 1) (List.replicate (((n:Int) + z).toNat - (n:Int).toNat) (I 0)) = cur.map I ++ sp:=by
  rw[show ((n:Int) + z).toNat - (n:Int).toNat = z from ω,show 0 + (n:Int).toNat * 1 = n from ω,hcur];unfold lay;rw[SC (by simp;omega),List.drop_append_of_le_length (by simp;omega)];simp
 refine @PR _ _ _ _ _ _ _ _ _ _ _ ω _ (by simp;omega) elay _ (jad (jla (l:=[I s.refs,I s.nums]) σ rfl (jp (I0 s) (E5 ω (jsi ω ?_)))));rw[show (n:Int) + 1 = ((n + 1:Nat):Int) by omega];refine E5 ω (jsi (by rw[Sn];omega) (AV (A:=[(b,C AW (((cur.set n n).set (n + 1) (Au s)).map I ++ sp))]) (RM.le.refl _) ⟨rfl,?_⟩));rw[em,hcur];refine⟨_,⟨b,c,sp,?_,?_,?_,rfl⟩,rfl⟩
 all_goals simp only[Sn,← hcur,hcl]
 ·exact hc
 ·exact hsp
theorem JO {R:RM} {wv:Value} {w:List Int} (a:Int) (h:Ai R wv w) (hl:w.length < 1000000) (hin:inR (w.getD (a.toNat + 1) 0)) :
  Fn P GP [wv,I a] R [] (λv R' A=>A = []∧∃x,ThV R' x (AZ w a).1∧v = .tuple #[x,.bool (AZ w a).2]):=by
 refine J7 λF=>?_
 refine z_2 ?_;obtain⟨wa,wc,hwv⟩:=h.sl;have th0V:ThV R (.agg (eTh Df (SN) (SN)).toArray) Df:=⟨_,_,rfl,.inl ⟨rfl,rfl,rfl⟩,.inl ⟨rfl,rfl,rfl⟩⟩;refine ja λb1=>?_
 have h':=h;rw[hwv];refine jp (HS wa w.length wc a 2 ω δ δ) ?_;rw[← hwv];refine jif (λh0=>?_) (λh0=>?_)
 ·have h0:fits w.length a 2 = false:=by simpa using h0
  have e:AZ w a = (Df,false):=by unfold AZ;rw[h0];rfl
  refine jbd rfl rfl (js rfl rfl (by exact z_n 6) rfl (jla (by exact z_n 6) rfl ?_));rw[e];exact AV (RM.le.refl _) ⟨rfl,_,th0V,rfl⟩
 have h0:fits w.length a 2 = true:=by simpa using h0
 obtain⟨a0,a1,-,-⟩:=Dc h0;obtain⟨n,rfl⟩:∃n:Nat,a = n:=⟨a.toNat,ω⟩;refine jad (ER h ω ω ?_);have e1:w[((n:Int) + 1).toNat]'(ω) = w.getD (n + 1) 0:=by
  have:((n:Int) + 1).toNat = n + 1:=ω
  simp only[this];rw[Rh,RU ω];rfl
 rw[e1];simp only[RV] at hin;generalize hwd:w.getD (n + 1) 0 = wd at hin ⊢;refine jp (Jz hin) (jex rfl (jex rfl (ja λb12=>jS [I (AT wd).1.refs,I (AT wd).1.nums] (jor [wv,I n,Pt b1,Pt b12] (!((AT wd).2 && fits w.length n (AA (AT wd).1))) (λK' hK'=>?_) (λe c u ho he=>?_)))))
 ·refine BT (λh1=>?_) (λh1=>?_)
  ·have h1:(AT wd).2 = true:=by simpa using h1
   obtain⟨q0,q1,q2,q3,q4⟩:=EP h1;refine jla (l:=[I (AT wd).1.refs,I (AT wd).1.nums]) σ rfl (jp (Bx _) ?_);rw[hwv];refine jp (HS wa w.length wc n _ ω ω ω) ?_;rw[← hwv,h1];exact hK' _ _ _ AY (by rw[h1,Rj])
  ·have h1:(AT wd).2 = false:=by simpa using h1
   rw[h1];exact hK' _ _ true Ao (by rw[h1];rfl)
 refine z_V ?_;rw[ho];refine jif (λh1=>?_) (λh1=>?_)
 ·have h1:((AT wd).2 && fits w.length n (AA (AT wd).1)) = false:=by rw[Rt] at h1;exact h1
  have e:AZ w n = (Df,false):=by
   unfold AZ;rw[if_pos h0,RV,hwd];simp only[h1];rfl
  refine jbd rfl rfl (js rfl rfl (by exact z_n 6) rfl (jla (by exact z_n 6) rfl ?_));rw[e];exact AV (RM.le.refl _) ⟨rfl,_,th0V,rfl⟩
 have h1:((AT wd).2 && fits w.length n (AA (AT wd).1)) = true:=by simpa using h1
 have et:AZ w n = (⟨n,w.getD n 0,(AT wd).1,seg w (n + 2) (AT wd).1.refs,seg w (n + 2 + (AT wd).1.refs) (AT wd).1.nums⟩,true):=by
  unfold AZ;rw[if_pos h0,RV,hwd];simp only[h1];rfl
 simp only[z_b] at h1;obtain⟨q0,q1,q2,q3,q4⟩:=EP h1.1;obtain⟨-,q5,-,-⟩:=Dc h1.2;rw[et];generalize (AT wd).1 = sh at q0 q1 q2 q3 q4 q5 ⊢;rw[q4] at q5;have en:w[(n:Int).toNat]'(ω) = w.getD n 0:=by
  simp only[RV];rw[Rh,RU ω];rfl
 refine jad (jl rfl (jad (RD h ω ω λq hq=>?_)));rw[en] at hq;refine hq _ _ (jla σ rfl (QE h ω ω ω λv1 hv1=>(jl rfl (jad (QE h ω ω ω λv2 hv2=>?_)))));have l1:((w.take ((n:Int) + 2 + sh.refs).toNat).drop ((n:Int) + 2).toNat) = seg w (n + 2) sh.refs:=by
  unfold seg;rw[List.drop_take];congr 1;omega
 have l2:((w.take ((n:Int) + 2 + sh.refs + sh.nums).toNat).drop ((n:Int) + 2 + sh.refs).toNat) = seg w (n + 2 + sh.refs) sh.nums:=by
  unfold seg;rw[List.drop_take];congr 1;omega
 rw[l1] at hv1;rw[l2] at hv2;have ll1:(seg w (n + 2) sh.refs).length < 1000000:=by unfold seg;rw[Rk,SR];omega
 have ll2:(seg w (n + 2 + sh.refs) sh.nums).length < 1000000:=by unfold seg;rw[Rk,SR];omega
 refine jc (Bj hv1 ll1) ?_;rintro x1 R1 A1 _ ⟨hR1,so1,-⟩;subst hR1;refine As (hq _ _ jev) (As (jla σ rfl jev) (As (jl rfl jev) (jc (Bj hv2 ll2) ?_)));rintro x2 R2 A2 _ ⟨hR2,so2,-⟩;subst hR2;obtain⟨xa1,xc1,e1⟩:=so1.sln;obtain⟨xa2,xc2,e2⟩:=so2.sln;subst e1 e2;refine jbd (cs:=[I n,I (w.getD n 0),I sh.refs,I sh.nums,.slice xa1 (seg w (n + 2) sh.refs).length xc1,.slice xa2 (seg w (n + 2 + sh.refs) sh.nums).length xc2]) rfl rfl (As (hq _ _ jev) (As (jla σ rfl jev) (js rfl rfl (by exact z_n 6) rfl (jla (by exact z_n 6) rfl (EE so2 λR3 hR3 hi2=>EE so1 λR4 hR4 hi1=>(AV (hR3.trans hR4) ⟨rfl,_,⟨_,_,rfl,hi1,hi2.le hR4⟩,rfl⟩))))))
theorem F8 {R:RM} {D:Chs} {va vb:Value} {la lb:List Int} (ha:Ai R va la) (hb:Ai R vb lb) (h1:la.length < 1000000) (h2:lb.length < 1000000):Ro HL [va,vb] (.bool (la == lb)) R D:=by
 refine Kb λF=>?_
 refine z_2 ?_;refine Bh ha.sl (Bh hb.sl (jne (jif (λh=>?_) (λh=>?_))))
 ·have h:(la.length:Int)≠lb.length:=by simpa using h
  refine Af ?_;congr 1;rw[eq_comm,beq_eq_false_iff_ne];intro e;rw[e] at h;exact h rfl
 have hl:la.length = lb.length:=by
  have:((la.length:Int) != lb.length) = false:=h;rw[bne_eq_false_iff_eq] at this;omega
 refine jlp (λm vs R' D'=>R' = R∧D' = D ++ F∧∃i:Nat,i≤la.length∧vs = [va,vb,I i]∧la.take i = lb.take i∧m = la.length - i) (n:=la.length) ⟨rfl,rfl,0,ω,rfl,σ,ω⟩ ?_;rintro m e R1 D1 K ⟨hR,hD,i,hi,he,heq,hm⟩ hK;subst hR;refine z_W ?_;refine Bh ha.sl (jlt (jif (λhc=>?_) (λhc=>?_)));rotate_left
 ·have hc:=z_g hc;refine Af ?_;rw[RX ω,RX ω] at heq;rw[heq];simp
 have hc:i < la.length:=by have:=z_f hc;omega
 refine ER ha ω ω (ER hb ω ω (jne ?_));simp only[RV];refine jif (λhd=>?_) (λhd=>?_)
 ·have hd:la[i]≠lb[i]:=by simpa using hd
  refine Af ?_;congr 1;rw[eq_comm,beq_eq_false_iff_ne];intro e;subst e;exact hd rfl
 ·have hd:la[i] = lb[i]:=by simpa using hd
  refine jad (hK (la.length - (i + 1)) _ _ _ ω ⟨rfl,rfl,i + 1,ω,rfl,?_,rfl⟩);rw[RW hc,RW (by omega:i < lb.length),heq,hd]
theorem Nv:(P.fieldsOf 60).toList.map (λf=>(f.name != "_",f.type,f.offset)) = [(true,AW,0),(true,AW,1)]:=by kernel_rfl
def Cod (R:RM) (v:Value):Prop:=∃n,Bsl R v n
theorem RG {a b:Shp} {x y:Operand} {R:RM} {D:Chs} {k:Value→M} (H:J R D (k (.bool (!(a == b))))):J R D (X P (do eqGuard .neq 60 x y (.agg #[I a.refs,I a.nums]) (.agg #[I b.refs,I b.nums]);binOp .neq 60 (.agg #[I a.refs,I a.nums]) (.agg #[I b.refs,I b.nums])) k):=by
 intro h hs w hw;have hfs:=Nv;rw[Rb,run_eqGuard_agg _ _ _ _ _ _ _ (by kernel_rfl)];simp only[RR];rw[run_neq_struct,run_equalIn_struct w 9999 60 _ _ (by kernel_rfl) (by kernel_rfl),JQ 9998 w [I a.refs,I a.nums] [I b.refs,I b.nums] _ [0,1] [a.refs,a.nums] [b.refs,b.nums] hfs rfl rfl];simp only[RR];have:([a.refs,a.nums] == [b.refs,b.nums]) = (a == b):=by
  rw[Sa];obtain⟨a1,a2⟩:=a;obtain⟨b1,b2⟩:=b;simp
 rw[this];subst hw;exact⟨Aa.refl _,H _ hs⟩
structure Blk (w w' : World):Prop where
 same:Aa w w'
 block:∀k,k < w.heap.size→w'.heap[k]? = w.heap[k]?
theorem Blk.frame {W w' : World} (h:Blk W w') (may:MemPlace→Prop):W.keptBut w' may:=by
 refine⟨h.same.1,h.same.2,λi hi=>?_⟩;rw[h.block i hi];split<;>simp_all
theorem Blk.at_ {W w' : World} (h:Blk W w') {p:MemPlace} (hp:p.block < W.heap.size):W.sameAt w' p:=by
 cases p with
 | cell b o=>exact World.cell?_of_block (w:=W) (h.block b hp)
 | map b=>exact h.block b hp
def Nc (w:World) (a:Option Addr) (len cap:Nat) (zs:List Int):Prop:=
 (a = none∧len = 0∧cap = 0∧zs = [])∨
 ∃x,a = some x∧len≤cap∧zs.length = cap∧(∀i,i < zs.length→w.cell? (x.add i) = some (.int .u8 (zs.getD i 0)))∧∀n∈zs,(Lit.int .u8 n).wf = true
theorem Pj {w:World} {a:Option Addr} {len cap:Nat} {zs:List Int} (h:Nc w a len cap zs):Cod (λb=>w.heap[b]?) (.slice a len cap):=by
 rcases h with ⟨rfl,rfl,rfl,rfl⟩ | ⟨x,rfl,hl,hz,hcell,hwz⟩
 ·exact⟨0,none,0,rfl,z_n _,.inl rfl⟩
 ·by_cases h0:len = 0
  ·exact⟨len,some x,cap,rfl,hl,.inl h0⟩
  ·obtain⟨b,off,spot⟩:=x;have hc:=hcell 0 ω;have hspot:spot = none:=by simpa [Addr.add] using World.cell?_spot hc
   subst hspot;refine⟨len,_,cap,rfl,hl,.inr ⟨b,off,rfl,λi hi=>?_⟩⟩;have hi' : i < zs.length:=ω
   have hc:=hcell i hi';have hw:=hwz (zs.getD i 0) (by simp[List.getD,hi']);rw[show (⟨b,off,none⟩:Addr).add i = ⟨b,off + i,none⟩ by simp[Addr.add],LH] at hc;unfold Go.Lf.hc at hc;split at hc
   ·rename_i cs t fz hb;refine⟨t,cs,fz,_,hb,hc,?_⟩;have hr:∀n:Int,(Lit.int .u8 n).wf = true→0≤n∧n < 256:=λn hn=>by
     have h2:(decide (0≤n) && decide (n≤255)) = true:=hn;simp only[z_b,z_d] at h2;omega
    exact hr _ hw
   ·cases hc
theorem N9 {f:Nat} (hw:∀(R:RM) (v:Value),Cod R v→Fn P f [v] R [] (λx _ A=>x = .bool true∧A = [])) {w:World} {a:Option Addr} {len cap:Nat} {zs:List Int} (h:Nc w a len cap zs) :
  Calls P f #[.slice a len cap] w λe w'=>e = .returned (.bool true)∧Blk w w':=by
 have h1:=hw _ _ (Pj h) [] w.heap ⟨λb o hb=>hb,(λb o hm=>by cases hm),List.nodup_nil⟩ w rfl;refine h1.mono ?_;rintro e w' ⟨v,rfl,hs,R',A',h2,h3,rfl,h4⟩;refine⟨rfl,hs,λk hk=>?_⟩;have:=h3.rd k _ (h2 k _ (T4 hk));rw[this,T4 hk]
theorem Km:P.underlying 76 = some (.map 3 4):=by kernel_rfl
theorem CX:P.underlying 3 = some (.int .i64):=by kernel_rfl
theorem RK (w:World):(zeroValue 4).run P w = .ok (.bool false) w:=by kernel_rfl
def MpI (o:Obj) (q:Int→Prop):Prop:=∃es clock,o = .map es clock∧(∀e∈es.toList,∃x,e.key = I x∧q x∧e.val = .bool true)∧∀x,q x→∃e∈es.toList,e.key = I x
section rules
variable {R:RM} {D:Chs} {k:Value→M}
theorem jXr {s:Sem Value} (H:∀h,St h R D→∀w:World,w.heap = h→∃v w',s.run P w = .ok v w'∧Aa w w'∧∃D',St w'.heap R D'∧J R D' (k v)):J R D (X P s k):=by
 intro h hs w hw;have:=H h hs w hw;generalize s.run P w = r at this;obtain⟨v,w',rfl,h1,D',h2,h3⟩:=this;exact⟨h1,h3 _ h2⟩
theorem QR (H:∀b o,MpI o (λ_=>False)→J R ((b,o) :: D) (k (.map (some b)))):J R D (X P (Instr.makeMap 76 none) k):=by
 intro h hs w hw;rw[show (Instr.makeMap 76 none).run P w = .ok (.map (some w.heap.size)) (w.alloc (.map #[] 0)) from rfl];subst hw;exact⟨⟨rfl,rfl⟩,H _ _ ⟨#[],0,rfl,σ,λ_ hx=>hx.elim⟩ _ hs.push⟩
theorem Ky {es:Array MapEntry} {q:Int→Prop} (h:∀e∈es.toList,∃x,e.key = I x∧q x∧e.val = .bool true):∀e∈es.toList,MapKept.IsKey (.int .i64) e.key:=λe he=>by
 obtain⟨x,hx,_⟩:=h e he;rw[hx];rfl
theorem PD {w:World} {b:Nat} {o:Obj} {q:Int→Prop} {x:Int} {t:Bool} (hb:w.heap[b]? = some o) (hm:MpI o q) (ht:q x↔t = true):(Instr.lookup 76 (.map (some b)) (I x) false).run P w = .ok (.bool t) w:=by
 obtain⟨es,clock,rfl,h1,h2⟩:=hm;have hk:MapKept.IsKey (.int .i64) (I x):=rfl;have run:∃c,(Instr.lookup 76 (.map (some b)) (I x) false).run P w = .ok (.bool c) w∧(c = true↔q x):=by
  rcases MapKept.findNow_spec hk es.toList 0 (Ky h1) with ⟨f1,f2⟩ | ⟨j,e0,f1,f2,f3⟩
  ·refine⟨false,?_,⟨(λh=>by cases h),λhq=>?_⟩⟩
   ·simp[Instr.lookup,run_underlying Km,MapKept.run_getObj_map hb,MapKept.run_checkKey CX hk,MapKept.run_findKey CX f1,RK,Result.andThen]
   ·obtain⟨e,he,hx⟩:=h2 x hq;exact absurd hx (f2 e he)
  ·obtain⟨y,hy,hq,hv⟩:=h1 e0 (List.mem_of_getElem? f2);have:y = x:=by
    have:=hy.symm.trans f3;exact (Value.int.inj this).2
   subst this;refine⟨true,?_,⟨λ_=>hq,λ_=>rfl⟩⟩;simp[Instr.lookup,run_underlying Km,MapKept.run_getObj_map hb,MapKept.run_checkKey CX hk,MapKept.run_findKey CX f1,hv,Result.andThen]
 obtain⟨c,hr,hc⟩:=run;have:c = t:=by
  have:=hc.trans ht;cases c<;>cases t<;>simp_all
 subst this;exact hr
theorem jlk {b:Nat} {o:Obj} {q:Int→Prop} {x:Int} {t:Bool} [a:At D b o] (hm:MpI o q) (ht:q x↔t = true) (H:J R D (k (.bool t))):J R D (X P (Instr.lookup 76 (.map (some b)) (I x) false) k):=
 @jXr R D k _ λh hs w hw=>⟨_,_,PD (by rw[hw];exact (hs.at_ b _ a.m).1) hm ht,Aa.refl _,D,by rw[hw];exact hs,H⟩
theorem P1 {w:World} {b:Nat} {o:Obj} {q:Int→Prop} {x:Int} (hb:w.heap[b]? = some o) (hm:MpI o q):∃o',MpI o' (λy=>q y∨y = x)∧(do Instr.mapUpdate 76 (.map (some b)) (I x) (.bool true);pure undef).run P w = .ok U (ChangeMaps.setBlock w b o')∧(∀b',b'≠b→(ChangeMaps.setBlock w b o').heap[b']? = w.heap[b']?)∧(ChangeMaps.setBlock w b o').heap[b]? = some o':=by
 obtain⟨es,clock,rfl,h1,h2⟩:=hm;have hk:MapKept.IsKey (.int .i64) (I x):=rfl;have run:∃es' clock',(Instr.mapUpdate 76 (.map (some b)) (I x) (.bool true)).run P w = .ok () (ChangeMaps.setBlock w b (.map es' clock'))∧MpI (.map es' clock') (λy=>q y∨y = x):=by
  rcases MapKept.findNow_spec hk es.toList 0 (Ky h1) with ⟨f1,f2⟩ | ⟨j,e0,f1,f2,f3⟩
  ·refine⟨es.push ⟨I x,.bool true,clock⟩,clock + 1,?_,_,_,rfl,?_,?_⟩
   ·simp[Instr.mapUpdate,run_underlying Km,MapKept.run_getObj_map hb,MapKept.run_checkKey CX hk,MapKept.run_findKey CX f1,MapKept.run_setObj_map _ hb,Result.andThen,ChangeMaps.setBlock]
   ·intro e he;simp only[Array.toList_push,Rq,Ri] at he;rcases he with he | rfl
    ·obtain⟨y,a1,a2,a3⟩:=h1 e he;exact⟨y,a1,.inl a2,a3⟩
    ·exact⟨x,rfl,.inr rfl,rfl⟩
   ·rintro y (hy | rfl)
    ·obtain⟨e,he,a1⟩:=h2 y hy;exact⟨e,by simp only[Array.toList_push,Rq];exact .inl he,a1⟩
    ·exact⟨⟨I y,.bool true,clock⟩,σ,rfl⟩
  ·have hj:es[j]? = some e0:=by rw[← SA];exact f2
   have hlt:j < es.size:=(Sb.1 hj).1;obtain⟨x0,hx0,hq0,hv0⟩:=h1 e0 (List.mem_of_getElem? f2);have hx:x0 = x:=(Value.int.inj (hx0.symm.trans f3)).2;subst hx;refine⟨es.modify j (λe=>{ e with key:=I x0,val:=.bool true }),clock,?_,_,_,rfl,?_,?_⟩
   ·simp[Instr.mapUpdate,run_underlying Km,MapKept.run_getObj_map hb,MapKept.run_checkKey CX hk,MapKept.run_findKey CX f1,hj,f3,MapKept.run_keyThatStays hk,MapKept.run_setObj_map _ hb,Result.andThen,ChangeMaps.setBlock]
   ·intro e he;obtain⟨i,hi⟩:=List.mem_iff_getElem?.1 he;rw[SA,Si] at hi;split at hi
    ·rename_i hij;subst hij;rw[hj] at hi;cases hi;exact⟨x0,rfl,.inr rfl,rfl⟩
    ·obtain⟨y,a1,a2,a3⟩:=h1 e (by rw[← SA] at hi;exact List.mem_of_getElem? hi);exact⟨y,a1,.inl a2,a3⟩
   ·intro y hy;have hy:q y:=by rcases hy with hy | rfl;exact hy;exact hq0
    obtain⟨e,he,a1⟩:=h2 y hy;obtain⟨i,hi⟩:=List.mem_iff_getElem?.1 he;rw[SA] at hi;by_cases hij:j = i
    ·subst hij;rw[hj] at hi;cases hi;exact⟨{ e0 with key:=I x0,val:=.bool true },List.mem_of_getElem? (by rw[SA,Si,if_pos rfl,hj];rfl),by show I x0 = I y;rw[← hx0];exact a1⟩
    ·exact⟨e,List.mem_of_getElem? (by rw[SA,Si,if_neg hij];exact hi),a1⟩
 obtain⟨es',clock',hr,hq⟩:=run;have hst:=MapKept.heap_set (o':=.map es' clock') hb;exact⟨_,hq,by rw[Rb,hr];rfl,hst.2,hst.1⟩
theorem jmu {b:Nat} {o:Obj} {E:Chs} {q:Int→Prop} {x:Int} [t:Tk D b o E] (hm:MpI o q) (H:∀o',MpI o' (λy=>q y∨y = x)→J R ((b,o') :: E) (k U)):J R D (X P (do Instr.mapUpdate 76 (.map (some b)) (I x) (.bool true);pure undef) k):=
 @jXr R D k _ λh hs w hw=>(P1 (by rw[hw];exact ((hs.perm t.p).at_ b _ (.head _)).1) hm).elim λo' h=>⟨U,_,h.2.1,⟨rfl,rfl⟩,_,(hs.perm t.p).turn h.2.2.2 (by rw[← hw];exact h.2.2.1),H _ h.1⟩
end rules
end Go.Lf
end
