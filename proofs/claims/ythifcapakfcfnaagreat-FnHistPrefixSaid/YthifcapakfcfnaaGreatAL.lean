/- A part of the proof of the given row. Conditions: none. -/
import Derived.Test.YthifcapakfcfnaaGreatRows
import Derived.ProofKit
import Derived.ChangeOld
import Derived.MapKept
import Derived.ChangeMaps4
import Derived.Shelf.Sort.Plain
import Derived.Shelf.Lay
import Derived.Test.YthifcapakfcfnaaGreatAK
set_option linter.unusedVariables false
set_option linter.unusedSimpArgs false
set_option maxRecDepth 100000
section
namespace Sm
def Rn (x:Int):Prop:=-9223372036854775808≤x∧x < 9223372036854775808
structure RT (t:Thr):Prop where
 r:∀a∈t.AA,Rn a
 h:Rn t.h
 g:Rn t.g
 k:Rn t.k
 u:Rn t.u
 v:Rn t.v
 w:Rn t.word
 d:Rn t.dst
 m:0≤t.BB∧t.BB≤2
structure RC (x:Col):Prop where
 w:Rn x.word
 d:Rn x.dst
structure RS (S:Sim):Prop where
 w:∀x∈S.A5,Rn x
 t:∀t∈S.th,RT t
 c:RC S.col
 o:∀p∈S.AE,∀o∈p,Rn o.v
theorem Rn.zero:Rn 0:=by unfold Rn;omega
theorem C5 {α:Type} {l:List α} {i:Int} {x:α} (h:idx l i = some x):x∈l:=by
 unfold idx at h;split at h
 ·exact List.mem_of_getElem? h
 ·cases h
theorem Di {α:Type} {l:List α} {i:Int} {x y:α} (h:y∈AM l i x):y∈l∨y = x:=Uc h
theorem RT.thr0 {AA:List Int} {n m:Int} (h:∀a∈AA,Rn a) (hm:0≤m∧m≤2):RT (thr0 AA n m):=⟨h,Rn.zero,Rn.zero,Rn.zero,Rn.zero,Rn.zero,Rn.zero,Rn.zero,hm⟩
theorem Rn.room {t t' : List Rg} {o z d:Int} (h:As t o z = some (t',d)):Rn d:=by
 have hh:BF t = true∧0≤o∧o≤3∧1≤z∧z≤16:=by
  unfold As at h;split at h
  ·rename_i hh;simp only[z_b,z_d] at hh;exact⟨hh.1.1.1.1,hh.1.1.1.2,hh.1.1.2,hh.1.2,hh.2⟩
  ·cases h
 obtain⟨h0,h1,h2,h3,h4⟩:=hh;rcases E0 (BL.1 h0) h1 h2 h3 h4 with hn | ⟨t2,d2,he,hr⟩
 ·rw[hn] at h;cases h
 rw[he] at h;cases h;have:=hr.d0;have n1:=hr.ok.n1;by_cases c:d / 16 < t'.length
 ·unfold Rn;omega
 ·have:=hr.dk;rw[Cn ω ω] at this;cases this
theorem Rn.shape {s:Shp}:Rn (Ab s):=by
 unfold Ab;split
 ·rename_i h;simp only[Ao,z_b,z_d] at h;unfold Rn;omega
 ·unfold Rn;omega
section
variable {S S' : Sim} {i a v:Int}
theorem RS.rd (R:RS S) (h:S.read a = some (v,S')):Rn v∧RS S'∧S'.th = S.th∧S'.AE = S.AE∧S'.col = S.col:=by
 unfold Sim.read at h;split at h
 ·rename_i hv;cases h;exact⟨R.w _ (C5 hv),⟨R.w,R.t,R.c,R.o⟩,rfl,rfl,rfl⟩
 ·cases h
theorem RS.wt (R:RS S) (hv:Rn v) (h:S.write a v = some S'):RS S':=by
 unfold Sim.write at h;split at h
 ·cases h;exact⟨λx hx=>(Di hx).elim (R.w x) λe=>e▸hv,R.t,R.c,R.o⟩
 ·cases h
theorem RS.st (R:RS S) {t:Thr} (ht:RT t):RS (S.setT i t):=⟨R.w,λx hx=>(Di hx).elim (R.t x) λe=>e▸ht,R.c,R.o⟩
theorem RS.ev (R:RS S) {b:Int} (h:S.event i a b = some S'):RS S':=by
 unfold Sim.event at h;split at h
 ·cases h
 split at h
 ·rename_i ht;split at h
  ·cases h;exact⟨R.w,λx hx=>(Di hx).elim (R.t x) λe=>e▸RT.thr0 (R.t _ (C5 ht)).r δ,R.c,R.o⟩
  ·cases h
 ·cases h
theorem RS.pu (R:RS S) (ha:Rn a) (h:S.push i a = some S'):RS S':=by
 unfold Sim.push at h;split at h
 ·cases h
 split at h
 ·rename_i t ht;have T:=R.t _ (C5 ht);refine RS.ev (R.st ?_) h;exact⟨λx hx=>(U7.1 hx).elim (T.r x) λe=>by rw[U2.1 e];exact ha,T.h,T.g,T.k,T.u,T.v,T.w,T.d,T.m⟩
 ·cases h
theorem RS.bk (R:RS S) (h:S.back i = some S'):RS S':=by
 unfold Sim.back at h;split at h
 ·rename_i ht;cases h;exact⟨R.w,λx hx=>(Di hx).elim (R.t x) λe=>e▸RT.thr0 (R.t _ (C5 ht)).r δ,R.c,R.o⟩
 ·cases h
theorem RS.tp (R:RS S) (h:S.top a v = some S'):RS S':=by
 unfold Sim.top at h;split at h
 ·split at h
  ·cases h;exact⟨R.w,R.t,R.c,R.o⟩
  ·cases h
 ·cases h
theorem RS.od (R:RS S) (h:S.oldV v = some S'):RS S':=by
 unfold Sim.oldV at h;split at h
 ·cases h
 ·cases h;split
  ·exact⟨R.w,R.t,R.c,R.o⟩
  ·exact R
theorem RS.op (R:RS S) {t:Thr} {o:Op} (h:S.opOf i t = some o):Rn o.v:=by
 unfold Sim.opOf at h;split at h
 ·rename_i hp;exact R.o _ (C5 hp) _ (C5 h)
 ·cases h
theorem RT.pc {t:Thr} (T:RT t) (n:Int):RT { t with pc:=n }:=⟨T.r,T.h,T.g,T.k,T.u,T.v,T.w,T.d,T.m⟩
theorem RT.hold {t:Thr} (T:RT t) (n:Int) (ha:Rn a):RT (BQ t n a):=by
 unfold BQ;split
 ·exact⟨T.r,ha,T.g,T.k,T.u,T.v,T.w,T.d,T.m⟩
 split
 ·exact⟨T.r,T.h,ha,T.k,T.u,T.v,T.w,T.d,T.m⟩
 split
 ·exact⟨T.r,T.h,T.g,ha,T.u,T.v,T.w,T.d,T.m⟩
 ·exact⟨T.r,T.h,T.g,T.k,T.u,ha,T.w,T.d,T.m⟩
theorem RS.begin_ (R:RS S) (h:S.begin_ i = some S'):RS S':=by
 unfold Sim.begin_ at h;obtain⟨t,ht,h⟩:=Ti.1 h;have T:=R.t _ (C5 ht);obtain⟨o,ho,h⟩:=Ti.1 h;split at h
 ·exact R.ev h
 dsimp only at h;split at h
 ·exact R.ev h
 split at h
 ·exact RS.ev (R.st (by exact⟨λx hx=>T.r x (UO hx),T.h,T.g,T.k,T.u,T.v,T.w,T.d,T.m⟩)) h
 split at h
 ·obtain⟨b,hb,h⟩:=Ti.1 h;exact R.pu (T.r _ (C5 hb)) h
 split at h
 ·cases h;exact R.st (T.pc _)
 obtain⟨b,hb,h⟩:=Ti.1 h;have T1:RT { t with pc:=1,h:=b }:=⟨T.r,T.r _ (C5 hb),T.g,T.k,T.u,T.v,T.w,T.d,T.m⟩;obtain⟨t2,h2,h⟩:=Ti.1 h;have T2:RT t2:=by
  split at h2
  ·obtain⟨c,hc,h2⟩:=Ti.1 h2;cases h2;exact⟨T1.r,T1.h,T1.r _ (C5 hc),T1.k,T1.u,T1.v,T1.w,T1.d,T1.m⟩
  ·cases h2;exact T1
 obtain⟨t3,h3,h⟩:=Ti.1 h;have T3:RT t3:=by
  split at h3
  ·obtain⟨c,hc,h3⟩:=Ti.1 h3;cases h3;exact⟨T2.r,T2.h,T2.g,T2.r _ (C5 hc),T2.u,T2.v,T2.w,T2.d,T2.m⟩
  ·cases h3;exact T2
 cases h;exact R.st T3
theorem RS.resolve (R:RS S) (h:S.resolve i = some S'):RS S':=by
 unfold Sim.resolve at h;obtain⟨t,ht,h⟩:=Ti.1 h;have T:=R.t _ (C5 ht);split at h
 ·cases h
 dsimp only at h;obtain⟨f,hf,h⟩:=Ti.1 h;split at h
 ·cases h;exact R.st (T.pc _)
 obtain⟨⟨w,S1⟩,h1,h⟩:=Ti.1 h;obtain⟨hw,R1,e1,_⟩:=R.rd h1;dsimp only at h;split at h
 ·cases h;exact R1.st ⟨T.r,T.h,T.g,T.k,T.u,T.v,T.w,T.d,T.m⟩
 ·cases h;exact R1.st (T.hold _ hw)
theorem RS.copying (R:RS S) (h:S.copying i = some S'):RS S':=by
 unfold Sim.copying at h;obtain⟨t,ht,h⟩:=Ti.1 h;have T:=R.t _ (C5 ht);split at h
 ·obtain⟨b,hb,h⟩:=Ti.1 h;obtain⟨⟨w,S1⟩,h1,h⟩:=Ti.1 h;obtain⟨hw,R1,_⟩:=R.rd h1;dsimp only at h;split at h
  ·exact R1.bk h
  ·rename_i hr;cases h;exact RS.st (by exact⟨R1.w,R1.t,R1.c,R1.o⟩) (by exact⟨T.r,T.h,T.g,T.k,T.u,T.v,T.w,Rn.room hr,T.m⟩)
 split at h
 ·obtain⟨b,hb,h⟩:=Ti.1 h;obtain⟨⟨w,S1⟩,h1,h⟩:=Ti.1 h;obtain⟨hw,R1,_⟩:=R.rd h1;cases h;exact R1.st ⟨T.r,T.h,T.g,T.k,T.u,T.v,hw,T.d,T.m⟩
 split at h
 ·obtain⟨b,hb,h⟩:=Ti.1 h;obtain⟨S1,h1,h⟩:=Ti.1 h;have R1:=R.wt T.w h1;obtain⟨n,hn,h⟩:=Ti.1 h;cases h;exact R1.st ⟨T.r,T.h,T.g,T.k,T.u,T.v,T.w,T.d,T.m⟩
 split at h
 ·obtain⟨S1,h1,h⟩:=Ti.1 h;have R1:=R.wt T.d h1;cases h;exact R1.st (T.pc _)
 split at h
 ·split at h
  ·cases h
  obtain⟨⟨w,S1⟩,h1,h⟩:=Ti.1 h;obtain⟨hw,R1,_⟩:=R.rd h1;dsimp only at h;split at h
  ·obtain⟨S2,h2,h⟩:=Ti.1 h;obtain⟨S3,h3,h⟩:=Ti.1 h;cases h;exact ((R1.wt T.d h2).tp h3).st (T.hold _ T.d)
  ·cases h;exact R1.st (T.hold _ hw)
 ·cases h;exact R.st T
theorem RS.making (R:RS S) (h:S.making i = some S'):RS S':=by
 unfold Sim.making at h;obtain⟨t,ht,h⟩:=Ti.1 h;have T:=R.t _ (C5 ht);obtain⟨o,ho,h⟩:=Ti.1 h;split at h
 ·dsimp only at h;split at h
  ·split at h
   ·exact R.ev h
   ·exact R.bk h
  ·rename_i hr;cases h;exact RS.st (by exact⟨R.w,R.t,R.c,R.o⟩) (by exact⟨T.r,T.h,T.g,T.k,T.u,T.v,T.w,Rn.room hr,T.m⟩)
 split at h
 ·obtain⟨S1,h1,h⟩:=Ti.1 h;cases h;exact (R.wt T.d h1).st (T.pc _)
 obtain⟨⟨S1,t1⟩,h1,h⟩:=Ti.1 h;have H1:RS S1∧RT t1:=by
  split at h1
  ·obtain⟨b,hb,h1⟩:=Ti.1 h1;obtain⟨S2,h2,h1⟩:=Ti.1 h1;cases h1;exact⟨R.wt Rn.shape h2,T⟩
  split at h1
  ·obtain⟨b,hb,h1⟩:=Ti.1 h1;obtain⟨S2,h2,h1⟩:=Ti.1 h1;obtain⟨n,hn,h1⟩:=Ti.1 h1;cases h1;exact⟨R.wt Rn.zero h2,⟨T.r,T.h,T.g,T.k,T.u,T.v,T.w,T.d,T.m⟩⟩
  ·cases h1;exact⟨R,T⟩
 obtain⟨R1,T1⟩:=H1;dsimp only at h;split at h
 ·obtain⟨S2,h2,h⟩:=Ti.1 h;exact ((R1.st (T1.pc 33)).tp h2).pu T1.d h
 ·cases h;exact R1.st (T1.pc 33)
theorem RS.load (R:RS S) (hv:Rn v) (h:S.load i v = some S'):RS S':=by
 unfold Sim.load at h;obtain⟨t,ht,h⟩:=Ti.1 h;have T:=R.t _ (C5 ht);split at h
 ·exact R.pu T.v h
 obtain⟨f,hf,h⟩:=Ti.1 h;split at h
 ·exact R.pu hv h
 ·cases h;exact R.st ⟨T.r,T.h,T.g,T.k,hv,hv,T.w,T.d,T.m⟩
theorem RS.swap (R:RS S) (hv:Rn v) (h:S.swap i v = some S'):RS S':=by
 unfold Sim.swap at h;obtain⟨t,ht,h⟩:=Ti.1 h;have T:=R.t _ (C5 ht);split at h
 ·exact R.ev h
 dsimp only at h;obtain⟨f,hf,h⟩:=Ti.1 h;split at h
 ·cases h;exact R.st ⟨T.r,T.h,T.g,T.k,hv,hv,T.w,T.d,T.m⟩
 split at h
 ·exact R.ev h
 obtain⟨S1,h1,h⟩:=Ti.1 h;cases h;exact (R.od h1).st ⟨T.r,T.h,T.g,T.k,hv,T.v,T.w,T.d,T.m⟩
theorem RS.shape (R:RS S) (h:S.shape i = some S'):RS S':=by
 unfold Sim.shape at h;obtain⟨t,ht,h⟩:=Ti.1 h;have T:=R.t _ (C5 ht);split at h
 ·cases h
 obtain⟨o,ho,h⟩:=Ti.1 h;split at h
 ·exact R.ev h
 split at h
 ·split at h
  ·exact R.ev h
  ·exact RS.ev (by exact⟨R.w,R.t,R.c,R.o⟩) h
 obtain⟨b,hb,h⟩:=Ti.1 h;obtain⟨⟨w,S1⟩,h1,h⟩:=Ti.1 h;obtain⟨hw,R1,_⟩:=R.rd h1;dsimp only at h;split at h
 ·exact R1.ev h
 ·cases h;exact R1.st ⟨T.r,T.h,T.g,T.k,T.u,T.v,T.w,T.d,T.m⟩
theorem RS.field (R:RS S) (h:S.field i = some S'):RS S':=by
 unfold Sim.field at h;obtain⟨t,ht,h⟩:=Ti.1 h;have T:=R.t _ (C5 ht);obtain⟨o,ho,h⟩:=Ti.1 h;obtain⟨b1,hb1,h⟩:=Ti.1 h;obtain⟨ref,hb2,h⟩:=Ti.1 h;obtain⟨b3,hb3,h⟩:=Ti.1 h;obtain⟨num,hb4,h⟩:=Ti.1 h;split at h
 ·obtain⟨⟨w,S1⟩,h1,h⟩:=Ti.1 h;obtain⟨hw,R1,_⟩:=R.rd h1;exact R1.load hw h
 split at h
 ·obtain⟨⟨w,S1⟩,h1,h⟩:=Ti.1 h;obtain⟨hw,R1,_⟩:=R.rd h1;obtain⟨S2,h2,h⟩:=Ti.1 h;cases h;exact (R1.od h2).st (T.pc _)
 split at h
 ·obtain⟨S1,h1,h⟩:=Ti.1 h;exact (R.wt T.g h1).ev h
 split at h
 ·obtain⟨S1,h1,h⟩:=Ti.1 h;exact (R.wt (R.op ho) h1).ev h
 split at h
 ·obtain⟨⟨w,S1⟩,h1,h⟩:=Ti.1 h;obtain⟨hw,R1,_⟩:=R.rd h1;exact R1.ev h
 split at h
 ·obtain⟨⟨w,S1⟩,h1,h⟩:=Ti.1 h;obtain⟨hw,R1,_⟩:=R.rd h1;exact R1.swap hw h
 split at h
 ·obtain⟨⟨w,S1⟩,h1,h⟩:=Ti.1 h;obtain⟨hw,R1,_⟩:=R.rd h1;dsimp only at h;split at h
  ·obtain⟨S2,h2,h⟩:=Ti.1 h;exact (R1.wt T.k h2).ev h
  ·cases h;exact R1.st (T.pc _)
 split at h
 ·split at h
  ·cases h;exact R.st (T.pc _)
  ·obtain⟨⟨w,S1⟩,h1,h⟩:=Ti.1 h;obtain⟨hw,R1,_⟩:=R.rd h1;exact R1.swap hw h
 ·cases h;exact R
theorem RS.tstep (R:RS S) (h:S.tstep i = some S'):RS S':=by
 unfold Sim.tstep at h;obtain⟨t,ht,h⟩:=Ti.1 h;split at h
 ·exact R.resolve h
 split at h
 ·exact R.shape h
 split at h
 ·exact R.making h
 split at h
 ·exact R.copying h
 ·exact R.field h
theorem RS.tloop:∀(n:Nat) {S S' : Sim},RS S→Sim.tloop n S i = some S'→RS S'
 | 0,_,_,_,h=>by cases h
 | n + 1,S,S',R,h=>by
  unfold Sim.tloop at h;obtain⟨t,ht,h⟩:=Ti.1 h;split at h
  ·cases h;exact R
  ·obtain⟨S1,h1,h⟩:=Ti.1 h;exact RS.tloop n (R.tstep h1) h
theorem RS.thread {n:Nat} (R:RS S) (h:S.thread n i = some S'):RS S':=by
 unfold Sim.thread at h;obtain⟨t,ht,h⟩:=Ti.1 h;split at h
 ·split at h
  ·cases h;exact R
  ·obtain⟨p,hp,h⟩:=Ti.1 h;split at h
   ·exact R.begin_ h
   ·cases h;exact R
 ·exact RS.tloop n (by exact⟨R.w,R.t,R.c,R.o⟩) h
end
section
variable {S S' : Sim} {i a v:Int}
theorem RS.sc (R:RS S) {c:Col} (hc:RC c):RS (S.setC c):=⟨R.w,R.t,hc,R.o⟩
theorem RC.zero (a:Bool) (n:Int):RC (Cd a n):=⟨Rn.zero,Rn.zero⟩
theorem RS.mark (R:RS S) (h:S.mark = some S'):RS S':=by
 unfold Sim.mark at h;split at h
 ·cases h
 dsimp only at h;split at h
 ·split at h
  ·cases h;exact⟨R.w,R.t,⟨R.c.w,R.c.d⟩,R.o⟩
  ·cases h;exact⟨R.w,R.t,⟨R.c.w,R.c.d⟩,R.o⟩
 obtain⟨b,hb,h⟩:=Ti.1 h;obtain⟨row,hrow,h⟩:=Ti.1 h;obtain⟨c,hc,h⟩:=Ti.1 h;split at h
 ·obtain⟨p1,hp,h⟩:=Ti.1 h;obtain⟨⟨w,S1⟩,h1,h⟩:=Ti.1 h;obtain⟨hw,R1,_⟩:=RS.rd (by exact⟨R.w,R.t,R.c,R.o⟩) h1;dsimp only at h;obtain⟨lv,hl,h⟩:=Ti.1 h;cases h;exact⟨R1.w,R1.t,⟨R.c.w,R.c.d⟩,R1.o⟩
 ·cases h;exact⟨R.w,R.t,⟨R.c.w,R.c.d⟩,R.o⟩
theorem RS.look (R:RS S) (h:S.look = some S'):RS S':=by
 unfold Sim.look at h;split at h
 ·cases h
 dsimp only at h;obtain⟨b,hb,h⟩:=Ti.1 h;obtain⟨b2,hb2,h⟩:=Ti.1 h;obtain⟨⟨w,S1⟩,h1,h⟩:=Ti.1 h;obtain⟨hw,R1,_⟩:=R.rd h1;dsimp only at h;obtain⟨n,hn,h⟩:=Ti.1 h;cases h;exact⟨R1.w,R1.t,⟨R.c.w,R.c.d⟩,R1.o⟩
theorem RS.walk (R:RS S) (h:S.walk = some S'):RS S':=by
 unfold Sim.walk at h;dsimp only at h;obtain⟨⟨r,p⟩,hb,h⟩:=Ti.1 h;dsimp only at h;split at h
 ·cases h;exact⟨R.w,R.t,⟨R.c.w,R.c.d⟩,R.o⟩
 obtain⟨q,hq,h⟩:=Ti.1 h;obtain⟨⟨w,S1⟩,h1,h⟩:=Ti.1 h;obtain⟨hw,R1,_⟩:=R.rd h1;dsimp only at h;cases h;refine R1.sc ?_;split
 ·exact⟨R.c.w,R.c.d⟩
 ·exact⟨R.c.w,R.c.d⟩
theorem RS.carry (R:RS S) (h:S.carry = some S'):RS S':=by
 unfold Sim.carry at h;dsimp only at h;split at h
 ·obtain⟨b,hb,h⟩:=Ti.1 h;obtain⟨⟨w,S1⟩,h1,h⟩:=Ti.1 h;obtain⟨hw,R1,_⟩:=R.rd h1;dsimp only at h;split at h
  ·cases h;exact⟨R1.w,R1.t,R1.c,R1.o⟩
  ·rename_i hr;cases h;exact⟨R1.w,R1.t,⟨R.c.w,Rn.room hr⟩,R1.o⟩
 split at h
 ·obtain⟨b,hb,h⟩:=Ti.1 h;obtain⟨⟨w,S1⟩,h1,h⟩:=Ti.1 h;obtain⟨hw,R1,_⟩:=R.rd h1;cases h;exact R1.sc ⟨hw,R.c.d⟩
 split at h
 ·obtain⟨b,hb,h⟩:=Ti.1 h;obtain⟨S1,h1,h⟩:=Ti.1 h;have R1:=R.wt R.c.w h1;obtain⟨n,hn,h⟩:=Ti.1 h;cases h;exact R1.sc ⟨R.c.w,R.c.d⟩
 split at h
 ·obtain⟨S1,h1,h⟩:=Ti.1 h;have R1:=R.wt R.c.d h1;cases h;exact R1.sc ⟨R.c.w,R.c.d⟩
 split at h
 ·obtain⟨⟨w,S1⟩,h1,h⟩:=Ti.1 h;obtain⟨hw,R1,_⟩:=R.rd h1;dsimp only at h;obtain⟨S2,h2,h⟩:=Ti.1 h;have R2:RS S2:=by
   split at h2
   ·obtain⟨S3,h3,h2⟩:=Ti.1 h2;exact (R1.wt R.c.d h3).tp h2
   ·cases h2;exact R1
  cases h;exact R2.sc ⟨R.c.w,R.c.d⟩
 ·cases h;exact R
theorem RC.then_ {x y:Col} (hx:RC x) (h:Eh x = some y):RC y:=by
 unfold Eh at h;obtain⟨n,hn,h⟩:=Ti.1 h;cases h;exact⟨hx.w,hx.d⟩
theorem RS.renew (R:RS S) (h:S.renew = some S'):RS S':=by
 unfold Sim.renew at h;dsimp only at h;split at h
 ·obtain⟨⟨r,p⟩,hb,h⟩:=Ti.1 h;dsimp only at h;split at h
  ·cases h;exact⟨R.w,R.t,⟨R.c.w,R.c.d⟩,R.o⟩
  obtain⟨q,hq,h⟩:=Ti.1 h;obtain⟨⟨w,S1⟩,h1,h⟩:=Ti.1 h;obtain⟨hw,R1,_⟩:=R.rd h1;dsimp only at h;obtain⟨q2,hq2,h⟩:=Ti.1 h;obtain⟨row,hrow,h⟩:=Ti.1 h;obtain⟨go,hgo,h⟩:=Ti.1 h;cases h;refine R1.sc ?_;split
  ·exact⟨R.c.w,R.c.d⟩
  ·exact⟨R.c.w,R.c.d⟩
 split at h
 ·obtain⟨b,hb,h⟩:=Ti.1 h;obtain⟨b2,hb2,h⟩:=Ti.1 h;obtain⟨⟨w,S1⟩,h1,h⟩:=Ti.1 h;obtain⟨hw,R1,_⟩:=R.rd h1;dsimp only at h;obtain⟨f,hf,h⟩:=Ti.1 h;split at h
  ·cases h;exact R1.sc ⟨R.c.w,R.c.d⟩
  ·obtain⟨y,hy,h⟩:=Ti.1 h;cases h;exact R1.sc (RC.then_ (by exact⟨R.c.w,R.c.d⟩) hy)
 split at h
 ·obtain⟨⟨w,S1⟩,h1,h⟩:=Ti.1 h;obtain⟨hw,R1,_⟩:=R.rd h1;dsimp only at h;split at h
  ·obtain⟨y,hy,h⟩:=Ti.1 h;cases h;exact R1.sc (RC.then_ (by exact⟨hw,R.c.d⟩) hy)
  ·cases h;exact R1.sc ⟨hw,R.c.d⟩
 split at h
 ·obtain⟨b,hb,h⟩:=Ti.1 h;obtain⟨b2,hb2,h⟩:=Ti.1 h;obtain⟨⟨w,S1⟩,h1,h⟩:=Ti.1 h;obtain⟨hw,R1,_⟩:=R.rd h1;dsimp only at h;obtain⟨S2,h2,h⟩:=Ti.1 h;have R2:RS S2:=by
   split at h2
   ·exact R1.wt R.c.w h2
   ·cases h2;exact R1
  obtain⟨y,hy,h⟩:=Ti.1 h;cases h;exact R2.sc (RC.then_ R.c hy)
 ·cases h;exact R
theorem RS.work (R:RS S) (h:S.work = some S'):RS S':=by
 unfold Sim.work at h;split at h
 ·exact R.mark h
 split at h
 ·exact R.look h
 split at h
 ·exact R.walk h
 split at h
 ·exact R.carry h
 ·exact R.renew h
theorem RS.cloop:∀(n:Nat) {S S' : Sim},RS S→Sim.cloop n S = some S'→RS S'
 | 0,_,_,_,h=>by cases h
 | n + 1,S,S',R,h=>by
  unfold Sim.cloop at h;split at h
  ·obtain⟨S1,h1,h⟩:=Ti.1 h;exact RS.cloop n (R.work h1) h
  ·cases h;exact R
theorem RS.idle (R:RS S) (h:S.idle = some S'):RS S':=by
 unfold Sim.idle at h;obtain⟨n,hn,h⟩:=Ti.1 h;cases h;exact⟨R.w,R.t,RC.zero _ _,R.o⟩
theorem RS.drain:∀(n:Nat) {S S' : Sim},RS S→Sim.drain n S = some S'→RS S'
 | 0,_,_,_,h=>by cases h
 | n + 1,S,S',R,h=>by
  unfold Sim.drain at h;split at h
  ·cases h
  split at h
  ·dsimp only at h;split at h
   ·obtain⟨S1,h1,h⟩:=Ti.1 h;exact RS.drain n (R.look h1) h
   ·obtain⟨S1,h1,h⟩:=Ti.1 h;exact RS.drain n (R.mark h1) h
  ·cases h;exact R
theorem RS.choose {n:Nat} (R:RS S) (h:S.choose n = some S'):RS S':=by
 unfold Sim.choose at h;obtain⟨S1,h1,h⟩:=Ti.1 h;have R1:=RS.drain n R h1;dsimp only at h;obtain⟨t,ht,h⟩:=Ti.1 h;split at h
 ·exact RS.idle (by exact⟨R1.w,R1.t,R1.c,R1.o⟩) h
 ·cases h;exact⟨R1.w,R1.t,⟨Rn.zero,Rn.zero⟩,R1.o⟩
theorem RS.rootsF (R:RS S):∀{l l' : List Int},(∀a∈l,Rn a)→S.rootsF l = some l'→∀a∈l',Rn a
 | [],l',_,h=>by cases h;simp
 | a :: r,l',hl,h=>by
  unfold Sim.rootsF at h;obtain⟨f,hf,h⟩:=Ti.1 h;obtain⟨b,hb,h⟩:=Ti.1 h;obtain⟨l2,h2,h⟩:=Ti.1 h;cases h;have ih:=RS.rootsF R (λx hx=>hl x (by simp[hx])) h2;intro x hx;rcases Tv.1 hx with rfl | hx
  ·split at hb
   ·exact R.w _ (C5 hb)
   ·cases hb;exact hl _ σ
  ·exact ih x hx
theorem RS.thsF (R:RS S):∀{l l' : List Thr},(∀t∈l,RT t)→S.thsF l = some l'→∀t∈l',RT t
 | [],l',_,h=>by cases h;simp
 | t :: r,l',hl,h=>by
  unfold Sim.thsF at h;obtain⟨b,hb,h⟩:=Ti.1 h;obtain⟨l2,h2,h⟩:=Ti.1 h;cases h;have ih:=RS.thsF R (λx hx=>hl x (by simp[hx])) h2;have T:=hl t σ;intro x hx;rcases Tv.1 hx with rfl | hx
  ·exact⟨R.rootsF T.r hb,T.h,T.g,T.k,T.u,T.v,T.w,T.d,T.m⟩
  ·exact ih x hx
theorem RS.finish (R:RS S) (h:S.finish = some S'):RS S':=by
 unfold Sim.finish at h;obtain⟨th,h1,h⟩:=Ti.1 h;exact RS.idle (by exact⟨R.w,R.thsF R.t h1,R.c,R.o⟩) h
theorem RS.update (R:RS S) (h:S.update = some S'):RS S':=by
 unfold Sim.update at h;obtain⟨_,h1,h⟩:=Ti.1 h;cases h;exact⟨R.w,R.t,⟨Rn.zero,Rn.zero⟩,R.o⟩
end
def Rth (l:List AV):Prop:=∀x∈l,Rn x.at_∧∀n∈x.nums,Rn n
theorem Rn.at_ {w:List Int} {a:Int} (hw:∀x∈w,Rn x) (h:(Am w a).2 = true):Rn (Am w a).1.at_∧∀n∈(Am w a).1.nums,Rn n:=by
 unfold Am at h ⊢;split
 ·rename_i hf;rw[if_pos hf] at h;dsimp only at h ⊢;split
  ·refine⟨?_,λn hn=>hw n (Uu (UO hn))⟩;unfold fits BW at hf;simp only[z_b,z_d] at hf;show Rn a;unfold Rn;omega
  ·exact⟨Rn.zero,by simp[EM]⟩
 ·exact⟨Rn.zero,by simp[EM]⟩
theorem Rth.from_ {w:List Int} (hw:∀x∈w,Rn x):∀(n:Nat) {a t:Int} {l:List AV},Ag w n a t = some l→Rth l
 | 0,a,t,l,h=>by
  unfold Ag at h;split at h
  ·cases h
  ·cases h;intro x hx;cases hx
 | n + 1,a,t,l,h=>by
  unfold Ag at h;split at h
  ·dsimp only at h;split at h
   ·rename_i hc;split at h
    ·rename_i hr;cases h;intro x hx;rcases Tv.1 hx with rfl | hx
     ·exact Rn.at_ hw (by simp only[z_b] at hc;exact hc.1)
     ·exact Rth.from_ hw n hr x hx
    ·cases h
   ·cases h
  ·cases h;intro x hx;cases hx
theorem Rth.all {w:List Int} (hw:∀x∈w,Rn x):∀(t:List Rg) (r:Nat) {l:List AV},BI w r t = some l→Rth l
 | [],r,l,h=>by cases h;intro x hx;cases hx
 | x :: t,r,l,h=>by
  unfold BI at h;split at h
  ·cases h
  ·rename_i a ha;split at h
   ·cases h
   ·rename_i b hb;cases h;have h1:Rth a:=by
     unfold BR at ha;split at ha
     ·exact Rth.from_ hw _ ha
     ·cases ha
    have h2:=Rth.all hw t (r + 1) hb;intro y hy;exact (U7.1 hy).elim (h1 y) (h2 y)
def Rw_ (w:List Int):Prop:=∀x∈w,Rn x
def Rtt (t:List Rg):Prop:=∀x∈t,Rn x.top
theorem Rw_.wr {w w' : List Int} {a v:Int} (R:Rw_ w) (hv:Rn v) (h:Sm.wr w a v = some w'):Rw_ w':=by
 unfold Sm.wr at h;split at h
 ·cases h;exact λx hx=>(Di hx).elim (R x) λe=>e▸hv
 ·cases h
theorem Rw_.wrs:∀(l:List Int) {w w' : List Int} {a:Int},Rw_ w→(∀x∈l,Rn x)→Sm.wrs w a l = some w'→Rw_ w'
 | [],w,w',a,R,_,h=>by cases h;exact R
 | v :: l,w,w',a,R,hl,h=>by
  unfold Sm.wrs at h;obtain⟨w1,h1,h⟩:=Ti.1 h;exact Rw_.wrs l (R.wr (hl v σ) h1) (λx hx=>hl x (by simp[hx])) h
theorem KZ {l:List AV} {a:Int} {x:AV} (h:CD l a = some x):x∈l∧x.at_ = a:=by
 unfold CD at h;exact⟨VC h,by simpa using List.find?_some h⟩
theorem Rw_.stay (s:Ah) (hs:Rtt s.A0):∀(l:List AV) {w w' : List Int} {t t' : List Rg},Rth l→Rw_ w→Rtt t→Sm.stay s l w t = some (w',t')→Rw_ w'∧Rtt t'
 | [],w,w',t,t',_,R,T,h=>by cases h;exact⟨R,T⟩
 | x :: l,w,w',t,t',hl,R,T,h=>by
  unfold Sm.stay at h;dsimp only at h;have hl2:Rth l:=λy hy=>hl y (by simp[hy])
  obtain⟨q1,q2⟩:=hl x σ;split at h
  ·obtain⟨w1,h1,h⟩:=Ti.1 h;obtain⟨w2,h2,h⟩:=Ti.1 h;obtain⟨w3,h3,h⟩:=Ti.1 h;obtain⟨row,hr,h⟩:=Ti.1 h;obtain⟨_,_,h⟩:=Ti.1 h;refine Rw_.stay s hs l hl2 (Rw_.wrs _ ((R.wr q1 h1).wr Rn.shape h2) q2 h3) (λy hy=>?_) h;rcases Di hy with hy | hy
   ·exact T y hy
   ·rw[hy];exact hs row (C5 hr)
  ·exact Rw_.stay s hs l hl2 R T h
theorem QL {a b c:Int} (h:CC a b = some c):Rn c:=by
 unfold CC at h;split at h
 ·cases h;rename_i q;exact q
 ·cases h
theorem Rw_.slide (AI:List Int) {l:List AV} (hl:Rth l):∀(AH:List Int) {t t' : List Rg} {r:Int} {to to' : List Int},Rtt t→(∀d∈to,Rn d)→Sm.slide AI l AH t r to = some (t',to')→∀d∈to',Rn d
 | [],t,t',r,to,to',T,ht,h=>by cases h;exact ht
 | a :: AH,t,t',r,to,to',T,ht,h=>by
  unfold Sm.slide at h;obtain⟨x,hx,h⟩:=Ti.1 h;obtain⟨hm,he⟩:=KZ hx;dsimp only at h;split at h
  ·refine Rw_.slide AI hl AH T (λd hd=>?_) h;rcases U7.1 hd with hd | hd
   ·exact ht d hd
   ·rw[U2.1 hd,← he];exact (hl x hm).1
  obtain⟨r2,hr2,h⟩:=Ti.1 h;obtain⟨row,hrow,h⟩:=Ti.1 h;obtain⟨top,htop,h⟩:=Ti.1 h;refine Rw_.slide AI hl AH (λy hy=>(Di hy).elim (T y) λe=>e▸QL htop) (λd hd=>?_) h;rcases U7.1 hd with hd | hd
  ·exact ht d hd
  ·rw[U2.1 hd];exact T row (C5 hrow)
theorem Rw_.refs {l:List AV} {AH to:List Int} (ht:∀d∈to,Rn d):∀(r:List Int) {w w' : List Int} {a:Int},Rw_ w→FF l AH to w a r = some w'→Rw_ w'
 | [],w,w',a,R,h=>by cases h;exact R
 | v :: r,w,w',a,R,h=>by
  unfold FF at h;obtain⟨n,hn,h⟩:=Ti.1 h;dsimp only at h;obtain⟨w1,h1,h⟩:=Ti.1 h;refine Rw_.refs ht r ?_ h;split at h1
  ·obtain⟨d,hd,h1⟩:=Ti.1 h1;exact R.wr (ht d (C5 hd)) h1
  ·cases h1;exact R
theorem Rw_.move {l:List AV} (hl:Rth l) {AH to:List Int} (ht:∀d∈to,Rn d):∀(la ld:List Int) {w w' : List Int},Rw_ w→(∀d∈ld,Rn d)→Em l AH to la ld w = some w'→Rw_ w'
 | [],ld,w,w',R,_,h=>by unfold Em at h;cases h;exact R
 | a :: la,[],w,w',R,_,h=>by unfold Em at h;cases h;exact R
 | a :: la,d :: ld,w,w',R,hd,h=>by
  unfold Em at h;obtain⟨x,hx,h⟩:=Ti.1 h;obtain⟨w1,h1,h⟩:=Ti.1 h;obtain⟨w2,h2,h⟩:=Ti.1 h;obtain⟨w3,h3,h⟩:=Ti.1 h;obtain⟨w4,h4,h⟩:=Ti.1 h;have R2:=(R.wr (hd d σ) h1).wr Rn.shape h2;exact Rw_.move hl ht la ld (Rw_.wrs _ (Rw_.refs ht _ R2 h3) (hl x (KZ hx).1).2 h4) (λy hy=>hd y (by simp[hy])) h
theorem Rw_.AA {l:List AV} {AH to:List Int} (ht:∀d∈to,Rn d):∀(r:List Int) {r' : List Int},Cb l AH to r = some r'→∀a∈r',Rn a
 | [],r',h=>by cases h;simp
 | a :: r,r',h=>by
  unfold Cb at h;obtain⟨n,hn,h⟩:=Ti.1 h;dsimp only at h;obtain⟨b,hb,h⟩:=Ti.1 h;obtain⟨r2,h2,h⟩:=Ti.1 h;cases h;have ih:=Rw_.AA ht r h2;intro x hx;rcases Tv.1 hx with rfl | hx
  ·split at hb
   ·cases hb;exact Rn.zero
   ·exact ht _ (C5 hb)
  ·exact ih x hx
theorem Rw_.ths {l:List AV} {AH to:List Int} (ht:∀d∈to,Rn d):∀(r:List Th) {r' : List Th},CY l AH to r = some r'→∀t∈r',∀a∈t.AA,Rn a
 | [],r',h=>by cases h;simp
 | t :: r,r',h=>by
  unfold CY at h;obtain⟨ro,hro,h⟩:=Ti.1 h;obtain⟨r2,h2,h⟩:=Ti.1 h;cases h;have ih:=Rw_.ths ht r h2;intro x hx;rcases Tv.1 hx with rfl | hx
  ·exact Rw_.AA ht _ hro
  ·exact ih x hx
theorem Rtt.new (n:Int):Rtt (AO n):=by
 unfold AO;split
 ·intro x hx;cases hx
 ·intro x hx;rcases Tv.1 hx with rfl | hx
  ·exact Rn.zero
  ·obtain⟨k,hk,rfl⟩:=UK.1 hx;show Rn (AG _);unfold AG;split
   ·exact Rn.zero
   ·unfold Rn;omega
theorem NG {s s' : Ah} (hw:Rw_ s.A5) (ht:Rtt s.A0) (h:E9 s = some s'):Rw_ s'.A5∧∀t∈s'.AB,∀a∈t.AA,Rn a:=by
 unfold E9 at h;dsimp only at h;obtain⟨lv,h1,h⟩:=Ti.1 h;obtain⟨⟨w1,t1⟩,h2,h⟩:=Ti.1 h;obtain⟨⟨t2,to⟩,h3,h⟩:=Ti.1 h;obtain⟨w2,h4,h⟩:=Ti.1 h;obtain⟨th,h5,h⟩:=Ti.1 h;obtain⟨fu,h6,h⟩:=Ti.1 h;cases h;have hl:Rth ((BP s).getD []):=by
  cases hs:BP s with
  | none=>intro x hx;cases hx
  | some l=>exact Rth.all hw _ _ hs
 obtain⟨a1,a2⟩:=Rw_.stay s ht _ hl (λx hx=>by rw[(Ue.1 hx).2];exact Rn.zero) (Rtt.new _) h2;have a3:=Rw_.slide s.AI hl _ a2 (λd hd=>by cases hd) h3;exact⟨Rw_.move hl a3 _ _ a1 a3 h4,Rw_.ths a3 _ h5⟩
theorem JP {l:List AV} {AH to:List Int}:∀{ts ys:List Th},CY l AH to ts = some ys→(∀t∈ts,0≤t.BB∧t.BB≤2)→∀y∈ys,0≤y.BB∧y.BB≤2
 | [],ys,h,_=>by unfold CY at h;cases h;intro y hy;cases hy
 | t :: ts,ys,h,ht=>by
  unfold CY at h;obtain⟨r,-,h⟩:=Ti.1 h;obtain⟨zs,hz,h⟩:=Ti.1 h;cases h;intro y hy;rcases Tv.1 hy with rfl | hy
  ·have:=ht t σ;dsimp only;split<;>omega
  ·exact JP hz (λt h=>ht t (UN _ h)) y hy
theorem QY {s s' : Ah} (h:E9 s = some s') (ht:∀t∈s.AB,0≤t.BB∧t.BB≤2):∀y∈s'.AB,0≤y.BB∧y.BB≤2:=by
 unfold E9 at h;obtain⟨_,_,h⟩:=Ti.1 h;obtain⟨⟨_,_⟩,_,h⟩:=Ti.1 h;obtain⟨⟨_,_⟩,_,h⟩:=Ti.1 h;obtain⟨_,_,h⟩:=Ti.1 h;obtain⟨ths,h5,h⟩:=Ti.1 h;obtain⟨_,_,h⟩:=Ti.1 h;cases h;exact JP h5 ht
section
variable {S S' : Sim} {i a v:Int}
theorem RS.pause {n:Nat} (R:RS S) (T:Rtt S.A0) (h:S.pause n = some S'):RS S':=by
 unfold Sim.pause at h;split at h
 ·cases h
 split at h
 ·obtain⟨s,h1,h⟩:=Ti.1 h;cases h;obtain⟨a1,a2⟩:=NG (s:=S.view) R.w T h1;refine⟨a1,λt ht=>?_,RC.zero _ _,R.o⟩;obtain⟨t',ht',rfl⟩:=UK.1 ht;refine RT.thr0 (a2 t' ht') (QY h1 (λu hu=>?_) t' ht');obtain⟨w,hw,rfl⟩:=UK.1 (show u∈S.th.map λt=>(⟨t.AA,t.next,t.pc != 0,t.BB⟩:Th) from hu);exact (R.t w hw).m
 dsimp only at h;have R1:RS { S with stop:=false }:=⟨R.w,R.t,R.c,R.o⟩;split at h
 ·cases h;exact⟨R.w,R.t,⟨Rn.zero,Rn.zero⟩,R.o⟩
 split at h
 ·exact R1.choose h
 split at h
 ·exact R1.update h
 ·exact R1.finish h
theorem RS.pick (R:RS S) (T:Rtt S.A0) {p:Int} (h:S.pick p = some S'):RS S':=by
 unfold Sim.pick at h;split at h
 ·exact R.thread h
 split at h
 ·unfold Sim.collector at h;split at h
  ·split at h
   ·exact R.pause T h
   ·cases h;exact R
  split at h
  ·split at h
   ·cases h;exact⟨R.w,R.t,⟨R.c.w,R.c.d⟩,R.o⟩
   ·cases h;exact R
  ·exact RS.cloop _ (by exact⟨R.w,R.t,R.c,R.o⟩) h
 split at h
 ·cases h;exact⟨R.w,R.t,⟨R.c.w,R.c.d⟩,R.o⟩
 ·cases h;exact R
end
end Sm
end
section
namespace Go.Lf
open Go Sm
def sel (l:List Int) (x:Int):Int:=l.getD x.toNat 0
theorem jsb {R:RM} {D:Chs} {v:Value} {w n:Nat} {u:Int} {k:Value→M} (h:Bsl R v n) (h0:0≤u) (h1:u≤n) (H:∀v',Bsl R v' u.toNat→J R D (k v')):J R D (SL w v none (some (I u)) k):=by
 obtain⟨a,cap,rfl,hn,h2⟩:=h;intro h' hs;refine⟨⟨h0,ω⟩,H _ ⟨a,cap,rfl,ω,?_⟩ h' hs⟩;rcases h2 with h3 | ⟨b,o,h2,h3⟩
 ·exact .inl ω
 ·exact .inr ⟨b,o,h2,λi hi=>h3 i ω⟩
theorem Bsl.sl {R:RM} {v:Value} {n:Nat} (h:Bsl R v n):∃a c,v = .slice a n c:=by obtain⟨a,c,h1,_⟩:=h;exact⟨a,c,h1⟩
def Dr (f:Nat) (args:List Value) (R:RM) (rb:Nat) (v:Value) (m c:Int) (q:Value→RM→Prop):Prop:=
 Fn P f args R [(rb,rdO v m)] (λx R' A=>R.le R'∧q x R'∧∃m',m≤m'∧m'≤m + c∧A = [(rb,rdO v m')])
theorem jdr {R:RM} {D E:Chs} {f rb:Nat} {args:List Value} {v:Value} {m c:Int} {q:Value→RM→Prop} {k:Value→M} (hF:Dr f args R rb v m c q) [t:Tk D rb (rdO v m) E] (H:∀x R' m',R.le R'→q x R'→m≤m'→m'≤m + c→J R' ((rb,rdO v m') :: E) (k x)) :
  J R D (CA P f args k):=by
 refine jc hF ?_;rintro x R' _ _ ⟨h1,h2,m',h3,h4,rfl⟩;exact H x R' m' h1 h2 h3 h4
theorem MG {R R' : RM} {D E F:Chs} {rb:Nat} {v x:Value} {m c:Int} {q:Value→RM→Prop} (m' : Int) [t:Tk D rb (rdO v m') E] [s:Sf E F] (h1:R.le R') (h2:q x R') (h3:m≤m') (h4:m'≤m + c) :
  J R' D (F8 R F (λx R' A=>R.le R'∧q x R'∧∃m',m≤m'∧m'≤m + c∧A = [(rb,rdO v m')]) x):=by
 intro h hs;exact BC h1 ⟨h1,h2,m',h3,h4,rfl⟩ h (hs.perm t.p)
theorem jk3 {R:RM} {D E G H' F:Chs} {o o' o2:Obj} {m:M} (b c d:Nat) [t:Tk D b o E] [u:Tk E c o' G] [w:Tk G d o2 H'] [s:Sf H' F] (H:J R ((b,o) :: (c,o') :: (d,o2) :: F) m):J R D m:=by
 intro h hs;have h1:=((hs.perm t.p).perm (u.p.cons _)).perm ((w.p.cons _).cons _);obtain⟨X,hX⟩:=s.p;subst hX;have:=Uy (l₁:=[(b,o),(c,o'),(d,o2)]) (l₂:=X);have:=this.append_right F;exact H h (h1.perm (by simpa using this)).drop
theorem Om {R:RM} {v:Value} {n:Nat} (h:Bsl R v n) :
  Fn P Ht [v] R [] (λx R' A=>R' = R∧∃rb v',x = Pt rb∧A = [(rb,rdO v' 0)]∧Byt R v'):=by
 refine MT λF=>?_
 refine z_1 ?_;obtain⟨a,cap,hv⟩:=h.sl;refine AY (λvs R' D'=>R' = R∧D' = [] ++ F∧∃v',Byt R v'∧vs = [v']) (λK hK=>?_) ?_
 ·refine Cq h.sl (jgr (jif (λh1=>?_) (λh1=>?_)))
  ·have h1:=z_f h1;refine jsb h ω ω λv' hv'=>(hK _ _ _ ⟨rfl,rfl,v',?_,rfl⟩)
   obtain⟨a',c',e⟩:=hv'.sl;exact⟨a',_,c',e,hv',δ⟩
  ·have h1:=z_g h1;exact hK _ _ _ ⟨rfl,rfl,v,⟨a,n,cap,hv,h,ω⟩,rfl⟩
 rintro e R1 D1 ⟨hR,hD,v',hv',he⟩;subst hR;refine z_W ?_;obtain⟨a',n',c',hv2,-⟩:=id hv';subst hv2;refine jbd (cs:=[.slice a' n' c',I 0]) rfl rfl (ja λb=>(BC (RM.le.refl _) ⟨rfl,b,_,rfl,rfl,hv'⟩))
section draws
variable {R:RM} {rb:Nat} {v:Value} {m:Int}
end draws
section draws
variable {R:RM} {rb:Nat} {v:Value} {m:Int}
end draws
theorem S6 {R:RM} {D D1 A E:Chs} {t w by_ b m cx:Nat} {rows:List (List Value)} {cs:List Value} {v:Value} {zs:List Value} {k:Value→M} (rows2:List (List Value)) (so:SW t w rows v A) [tk:Tk D b (C t cs) D1] [sp:Sp D1 A E] (hcs:cs = rows2.flatten)
  (hw:∀r∈rows,r.length = w) (hw2:∀r∈rows2,r.length = w) (hz:zs.length = w) (hf:Bn rows2.flatten = true) (hm:m = rows2.length) (hb:by_≠0) (hl:by_ * (2 * (rows.length + rows2.length) + 200)≤2 ^ 48)
  (H:∀v' A',SW t w (rows ++ rows2) v' A'→J R (A' ++ E) (k v')):J R D (AP t w by_ zs v (S0 b m cx) k):=by
 subst hcs;intro h hs;have h1:=(hs.perm tk.p).perm ((sp.p.cons _).trans U9.symm);refine jaw so hw hw2 hz hf hm hb hl ?_ (λv' A' so'=>Aj U9 (CN (H v' A' so'))) h h1;have:=Ay.held (R:=R) (D:=A ++ (b,C t rows2.flatten) :: E) (b:=b) (o:=0) (n:=m * w) (by rw[BT hw2,hm];omega);rw[Ur,UG (by rw[BT hw2,hm];omega)] at this;exact this
theorem Jd {l:List Sm.Op}:∀r∈l.map eOp,r.length = 8:=by
 intro r hr;obtain⟨x,_,rfl⟩:=UK.1 hr;rfl
theorem TS {R:RM} {A E:Chs} {l:List Sm.Op} {v:Value} {m:M} (so:SW 54 8 (l.map eOp) v A) (H:∀R',R.le R'→Ops R' v l→J R' E m):J R (A ++ E) m:=by
 refine jfw so Jd λR' hR hfz=>H R' hR ?_
 rw[Tr] at hfz;exact hfz
def Vs (l:List Sm.Op):Prop:=∀o∈l,Rn o.v
theorem Vs.app {l l' : List Sm.Op} (h:Vs l) (h' : Vs l'):Vs (l ++ l'):=λo ho=>(U7.1 ho).elim (h o) (h' o)
theorem Vs.nil:Vs []:=λo ho=>by cases ho
theorem Vs.one {o:Sm.Op} (h:Rn o.v):Vs [o]:=λx hx=>by rw[U2.1 hx];exact h
section draws
variable {R:RM} {rb:Nat} {v:Value} {m:Int}
end draws
theorem Cy.le {R R' : RM} {v:Value} {l:List (List Sm.Op)} (h:R.le R') (H:Cy R v l):Cy R' v l:=by
 obtain⟨vs,h1,h2,h3⟩:=H;exact⟨vs,h1.le h,h2,λi hi=>by obtain⟨x,hx,ho⟩:=h3 i hi;exact⟨x,hx,ho.le h⟩⟩
def PrW (R:RM) (rows:List (List Value)) (l:List (List Sm.Op)):Prop:=Rw (λrow p=>∃x,row = [x]∧Ops R x p) rows l
theorem PrW.len {R:RM} {rows:List (List Value)} {l:List (List Sm.Op)} (h:PrW R rows l):∀r∈rows,r.length = 1:=h.all λ_ _ ⟨_,hx,_⟩=>by rw[hx];rfl
theorem PrW.le {R R' : RM} {rows:List (List Value)} {l:List (List Sm.Op)} (hr:R.le R') (h:PrW R rows l):PrW R' rows l:=h.mono λ_ _ ⟨x,h1,h2⟩=>⟨x,h1,h2.le hr⟩
theorem RK:∀{rows:List (List Value)} (_:∀r∈rows,r.length = 1) (i:Nat) (h:i < rows.length),rows.flatten[i]? = (rows[i])[0]?
 | [],_,i,h=>absurd h σ
 | a :: r,hw,i,h=>by
  have ha:a.length = 1:=hw a σ;rw[Un];cases i with
  | zero=>rw[Um ω];rfl
  | succ i=>rw[List.getElem?_append_right ω,ha,Uz,RK (λx hx=>hw x (by simp[hx])) i (by simpa using h)];rfl
theorem RL {R:RM} {A E:Chs} {t:Nat} {rows:List (List Value)} {l:List (List Sm.Op)} {v:Value} {m:M} (so:SW t 1 rows v A) (hp:PrW R rows l) (H:∀R',R.le R'→Cy R' v l→J R' E m):J R (A ++ E) m:=by
 refine jfw so hp.len λR' hR hfz=>H R' hR ⟨rows.flatten,?_,?_,λi hi=>?_⟩
 ·rw[← hp.1];exact hfz
 ·rw[BT hp.len,hp.1];omega
 ·have hi' : i < rows.length:=by rw[hp.1];exact hi
  obtain⟨x,h1,h2⟩:=hp.2 i hi' hi;exact⟨x,by rw[RK hp.len i hi',h1];rfl,h2.le hR⟩
section draws
variable {R:RM} {rb:Nat} {v:Value} {m:Int}
end draws
@[reducible] def eCf (c:Cfg):List Value:=[I c.A6,I c.AB,I c.AF]
theorem SO.sln {l:List Int} {v:Value} {A:Chs} (h:SO l v A):∃a c,v = .slice a l.length c:=by
 rcases h with ⟨rfl,rfl,_⟩ | ⟨b,c,sp,_,_,rfl,_⟩<;>exact⟨_,_,rfl⟩
section draws
variable {R:RM} {rb:Nat} {v:Value} {m:Int}
def Sml (l:List Int):Prop:=∀a∈l,0≤a∧a≤9
theorem Sml.snoc {l:List Int} {x:Int} (h:Sml l) (h0:0≤x) (h1:x≤9):Sml (l ++ [x]):=λa ha=>by
 rcases U7.1 ha with ha | ha
 ·exact h a ha
 ·rw[U2.1 ha];exact⟨h0,h1⟩
theorem MH {c:Cfg} {n:Nat} (hc:Az c = true) (hn:n≤4000) (hb:Byt R v) (hm:0≤m∧m < 200000000):Dr Ff [Pt rb,.agg #[I c.A6,I c.AB,I c.AF],I n] R rb v m 500000 (λx R'=>∃l:List Int,l.length = n∧Sml l∧B9 R' x l):=by
 refine Jh λF=>?_
 refine z_3 ?_;simp only[Az,z_b,z_d] at hc;refine ja λb=>Aj (Uq _ _ _) (AY (λvs R' D'=>R' = R∧∃(l:List Int) (ov:Value) (A:Chs) (m' : Int),n≤l.length∧Sml l∧SO l ov A∧m≤m'∧m'≤m + 500000∧D' = A ++ (rb,rdO v m') :: (b,C 24 (eCf c)) :: F∧vs = [I n,ov]) (λK hK=>?_) ?_)
 rotate_left
 ·rintro e R1 D1 ⟨hR,l,ov,A,m',hl,hp,so,h1,h2,hD,he⟩;subst hR;refine z_W ?_;clear hD;refine IN so λR2 hR2 hi=>Qc hi ω ω λv' hv'=>MG m' hR2 ⟨l.take n,by rw[UA];omega,λa ha=>hp a (UO ha),by rw[Tj] at hv';exact hv'⟩ h1 h2
 refine jcI hK λK2 hK2=>?_
 refine jlp (λmm vs R' D'=>R' = R∧∃(l:List Int) (ov:Value) (A:Chs) (m' : Int),l.length≤4100∧Sml l∧SO l ov A∧m≤m'∧m'≤m + 100 * l.length∧D' = A ++ (rb,rdO v m') :: (b,C 24 (eCf c)) :: F∧vs = [Pt rb,I n,Pt b,ov]∧mm = 4100 - l.length)
  ⟨rfl,[],SN,[],m,δ,(λp hp=>by cases hp),.inl ⟨rfl,rfl,rfl⟩,ω,σ,rfl,rfl,rfl⟩ ?_
 rintro mm e R1 D1 K3 ⟨hR,l,ov,A,m',hl,hp,so,h1,h2,hD,he,hmm⟩ hK3;subst hR;refine z_W ?_;clear hD;refine Cq so.sln (jlt (jif (λh=>?_) (λh=>?_)));rotate_left
 ·have h:=z_g h;exact hK2 _ _ _ ⟨rfl,l,ov,A,m',ω,hp,so,h1,ω,rfl,rfl⟩
 have h:=z_f h;refine AY (λvs R' D'=>R' = R1∧∃(l2:List Int) (ov:Value) (A:Chs) (m2:Int),l.length < l2.length∧l2.length≤l.length + 80∧Sml l2∧SO l2 ov A∧m'≤m2∧m2≤m' + 80∧D' = A ++ (rb,rdO v m2) :: (b,C 24 (eCf c)) :: F∧vs = [Pt rb,I n,Pt b,ov]) (λK4 hK4=>?_) ?_;rotate_left
 ·rintro e Rx Dx ⟨hR,l2,ov,A,m2,q1,q2,hp2,so2,q3,q4,hD,he⟩;subst hR;refine z_W ?_;clear hD;exact hK3 (4100 - l2.length) _ _ _ ω ⟨rfl,l2,ov,A,m2,ω,hp2,so2,ω,ω,rfl,rfl,rfl⟩
 refine jpk hb ⟨ω,ω⟩ λk _ _=>jad (jl rfl (jad (jpk hb ⟨ω,ω⟩ λp _ _=>(AY (λvs R' D'=>R' = R1∧∃k p m2:Int,1≤k∧k≤36∧0≤p∧p≤9∧m'≤m2∧m2≤m' + 3∧D' = A ++ (rb,rdO v m2) :: (b,C 24 (eCf c)) :: F∧vs = [Pt rb,I n,Pt b,ov,I k,I p]) (λK5 hK5=>?_) ?_))))
 ·refine jpk hb ⟨ω,ω⟩ λz _ _=>jeq (jif (λ_=>jl rfl (FW ⟨ω,ω⟩ ?_)) (λ_=>?_))<;>refine B7 A (G:=(rb,rdO v (m' + 1 + 1 + 1)) :: (b,C 24 (eCf c)) :: F) ?_
  ·exact hK5 _ _ _ ⟨rfl,_,_,_,ω,ω,ω,ω,ω,ω,rfl,rfl⟩
  ·exact hK5 _ _ _ ⟨rfl,_,_,_,ω,ω,ω,ω,ω,ω,rfl,rfl⟩
 rintro e Rx Dx ⟨hR,k,p,m2,k0,k1,p0,p1,q1,q2,hD,he⟩;subst hR;refine z_W ?_;clear hD;refine AY (λvs R' D'=>R' = Rx∧∃(l2:List Int) (ov:Value) (A:Chs) (m3:Int),l.length≤l2.length∧l2.length≤l.length + 1∧Sml l2∧SO l2 ov A∧m'≤m3∧m3≤m' + 4∧D' = A ++ (rb,rdO v m3) :: (b,C 24 (eCf c)) :: F∧vs = [Pt rb,I n,Pt b,ov,I k,I p]) (λK5 hK5=>?_) ?_
 ·refine jpk hb ⟨ω,ω⟩ λz _ _=>jeq (jif (λ_=>?_) (λ_=>?_))
  ·refine jl rfl (jad (jbs rfl rfl λbs=>HR so ω λv' A' so'=>(hK5 _ _ _ ⟨rfl,_,v',A',_,σ,σ,hp.snoc ω ω,so',ω,ω,rfl,rfl⟩)))
  ·refine B7 A (G:=(rb,rdO v (m2 + 1)) :: (b,C 24 (eCf c)) :: F) (hK5 _ _ _ ⟨rfl,l,ov,A,_,ω,ω,hp,so,ω,ω,rfl,rfl⟩)
 clear so;rintro e Ry Dy ⟨hR,l2,ov,A,m3,q3,q4,hp2,so,q5,q6,hD,he⟩;subst hR;refine z_W ?_;clear hD;refine jpk hb ⟨ω,ω⟩ λz _ _=>jeq (jif (λ_=>?_) (λ_=>?_))<;>refine B7 A (G:=(rb,rdO v (m3 + 1)) :: (b,C 24 (eCf c)) :: F) ?_
 ·refine jcI hK4 λK6 hK6=>?_
  refine jcI hK6 λK7 hK7=>?_
  refine jlp (λmm vs R' D'=>R' = Ry∧∃(i:Nat) (l3:List Int) (ov:Value) (A:Chs),(i:Int)≤2 * k∧l3.length = l2.length + i∧Sml l3∧SO l3 ov A∧D' = A ++ (rb,rdO v (m3 + 1 + i)) :: (b,C 24 (eCf c)) :: F∧vs = [Pt rb,I n,Pt b,ov,I k,I i]∧mm = 72 - i)
   ⟨rfl,0,l2,ov,A,ω,ω,hp2,so,by rw[show m3 + 1 + ((0:Nat):Int) = m3 + 1 from ω],rfl,rfl⟩ ?_
  clear so;rintro mm e Rz Dz K8 ⟨hR,i,l3,ov,A,i0,i1,hp3,so,hD,he,hmm⟩ hK8;subst hR;refine z_W ?_;clear hD;refine FW ⟨ω,ω⟩ (jlt (jif (λh=>?_) (λh=>?_)))
  ·have h:=z_f h;refine jl rfl (jad (jpk hb ⟨ω,ω⟩ λy _ _=>jbs rfl rfl λbs=>HR so ω λv' A' so'=>jad (hK8 (72 - (i + 1)) _ _ _ ω ⟨rfl,i + 1,_,v',A',ω,by simp;omega,hp3.snoc ω ω,so',by rw[show m3 + 1 + ((i + 1:Nat):Int) = m3 + 1 + i + 1 from ω],rfl,rfl⟩)))
  ·have h:=z_g h;exact hK7 _ _ _ ⟨rfl,l3,ov,A,_,ω,ω,hp3,so,ω,ω,rfl,rfl⟩
 ·refine jcI hK4 λK7 hK7=>?_
  refine jlp (λmm vs R' D'=>R' = Ry∧∃(i:Nat) (l3:List Int) (ov:Value) (A:Chs),(i:Int)≤k∧l3.length = l2.length + i∧Sml l3∧SO l3 ov A∧D' = A ++ (rb,rdO v (m3 + 1)) :: (b,C 24 (eCf c)) :: F∧vs = [Pt rb,I n,Pt b,ov,I k,I p,I i]∧mm = 72 - i)
   ⟨rfl,0,l2,ov,A,ω,ω,hp2,so,rfl,rfl,rfl⟩ ?_
  clear so;rintro mm e Rz Dz K8 ⟨hR,i,l3,ov,A,i0,i1,hp3,so,hD,he,hmm⟩ hK8;subst hR;refine z_W ?_;clear hD;refine jlt (jif (λh=>?_) (λh=>?_))
  ·have h:=z_f h;refine jbs rfl rfl λbs=>HR so ω λv' A' so'=>jad (hK8 (72 - (i + 1)) _ _ _ ω ⟨rfl,i + 1,_,v',A',ω,by simp;omega,hp3.snoc ω ω,so',rfl,rfl,rfl⟩)
  ·have h:=z_g h;exact hK7 _ _ _ ⟨rfl,l3,ov,A,_,ω,ω,hp3,so,ω,ω,rfl,rfl⟩
end draws
section draws
variable {R:RM} {rb:Nat} {v:Value} {m:Int}
end draws
section draws
variable {R:RM} {rb:Nat} {v:Value} {m:Int}
def SH (x:Value) (R:RM):Prop:=∃(c:Cfg) (AE:List (List Sm.Op)) (picks:List Int) (pv kv:Value),x = .tuple #[.agg #[I c.A6,I c.AB,I c.AF],pv,kv]∧(BH c AE picks = true∧∀p∈AE,Vs p)∧Sml picks∧Cy R pv AE∧B9 R kv picks
theorem Ka {c:Cfg} {AE:List (List Sm.Op)} {picks:List Int} (hc:Az c = true) (hl:(AE.length:Int) = c.AB) (hp:∀p∈AE,p.length≤40) (hk:picks.length≤4000):BH c AE picks = true:=by
 unfold BH;simp only[z_b,z_d,UB];exact⟨⟨⟨hc,hl⟩,hk⟩,hp⟩
theorem Cy.sl {v:Value} {l:List (List Sm.Op)} (H:Cy R v l):∃a c,v = .slice a l.length c:=by
 obtain⟨vs,h,_⟩:=H;exact h.sl
end draws
structure StB (r:Nat) (s:Sm.Ah):Prop where
 wr:∀x∈s.A5,Rn x
 wl:s.A5.length = 16 * s.A0.length
 t0:2≤s.A0.length
 t1:s.A0.length≤12
 tp:∀x∈s.A0,-100 * (r:Int)≤x.top∧x.top≤100 * r
 n0:1≤s.AB.length
 n1:s.AB.length≤3
 rl:∀t∈s.AB,t.AA.length≤r
 pl:s.AI.length≤8
 pv:∀a∈s.AI,0≤a∧a≤1000
 ol:s.old.length≤100000
 ml:s.AJ.length = s.A5.length
 cy:0≤s.B8∧s.B8≤100000
 fu:0≤s.Be∧s.Be≤10000 * r
theorem StB.mono {s:Sm.Ah} (h:StB 8 s):StB 9 s:={ h with fu:=(by have:=h.fu;omega),rl:=λt ht=>(by have:=h.rl t ht;omega),tp:=λx hx=>(by have:=h.tp x hx;omega) }
theorem StB.row {s:Sm.Ah} (h:StB 8 s) (k:Nat) {x:Rg} (h0:-900≤x.top) (h1:x.top≤900):StB 9 { s with A0:=s.A0.set k x }:=
 { h.mono with wl:=by simpa using h.wl,t0:=by simpa using h.t0,t1:=by simpa using h.t1,tp:=λy hy=>(by
   rcases Uc hy with hy | hy
   ·exact h.mono.tp y hy
   ·subst hy;omega) }
theorem SW.flat {t w:Nat} {rows:List (List Value)} {v:Value} {A:Chs} (h:SW t w rows v A):flat v = true:=by
 obtain⟨a,c,e⟩:=h.sl;rw[e];rfl
section draws
variable {R:RM} {rb:Nat} {v:Value} {m:Int}
end draws
section draws
variable {R:RM} {rb:Nat} {v:Value} {m:Int}
end draws
section rules
variable {R:RM} {D:Chs} {k:Value→M}
end rules
theorem C7 {w:List Int} {a:Int} (h0:0≤a) (h1:a < w.length):w[a.toNat]'(ω) = w.getD a.toNat 0:=by
 rw[Ty,Tl ω];rfl
def Cod (R:RM) (v:Value):Prop:=∃n,Bsl R v n
structure Blk (w w' : World):Prop where
 same:Ap w w'
 block:∀k,k < w.heap.size→w'.heap[k]? = w.heap[k]?
theorem Blk.frame {W w' : World} (h:Blk W w') (may:MemPlace→Prop):W.keptBut w' may:=by
 refine⟨h.same.1,h.same.2,λi hi=>?_⟩;rw[h.block i hi];split<;>simp_all
theorem Blk.at_ {W w' : World} (h:Blk W w') {p:MemPlace} (hp:p.block < W.heap.size):W.sameAt w' p:=by
 cases p with
 | cell b o=>exact World.cell?_of_block (w:=W) (h.block b hp)
 | map b=>exact h.block b hp
def LV (w:World) (a:Option Addr) (len cap:Nat) (zs:List Int):Prop:=
 (a = none∧len = 0∧cap = 0∧zs = [])∨
 ∃x,a = some x∧len≤cap∧zs.length = cap∧(∀i,i < zs.length→w.cell? (x.add i) = some (.int .u8 (zs.getD i 0)))∧∀n∈zs,(Lit.int .u8 n).wf = true
theorem Py {w:World} {a:Option Addr} {len cap:Nat} {zs:List Int} (h:LV w a len cap zs):Cod (λb=>w.heap[b]?) (.slice a len cap):=by
 rcases h with ⟨rfl,rfl,rfl,rfl⟩ | ⟨x,rfl,hl,hz,hcell,hwz⟩
 ·exact⟨0,none,0,rfl,z_n _,.inl rfl⟩
 ·by_cases h0:len = 0
  ·exact⟨len,some x,cap,rfl,hl,.inl h0⟩
  ·obtain⟨b,off,spot⟩:=x;have hc:=hcell 0 ω;have hspot:spot = none:=by simpa [Addr.add] using World.cell?_spot hc
   subst hspot;refine⟨len,_,cap,rfl,hl,.inr ⟨b,off,rfl,λi hi=>?_⟩⟩;have hi' : i < zs.length:=ω
   have hc:=hcell i hi';have hw:=hwz (zs.getD i 0) (by simp[List.getD,hi']);rw[show (⟨b,off,none⟩:Addr).add i = ⟨b,off + i,none⟩ by simp[Addr.add],Q4] at hc;unfold Go.Lf.hc at hc;split at hc
   ·rename_i cs t fz hb;refine⟨t,cs,fz,_,hb,hc,?_⟩;have hr:∀n:Int,(Lit.int .u8 n).wf = true→0≤n∧n < 256:=λn hn=>by
     have h2:(decide (0≤n) && decide (n≤255)) = true:=hn;simp only[z_b,z_d] at h2;omega
    exact hr _ hw
   ·cases hc
theorem Nw {f:Nat} (hw:∀(R:RM) (v u:Value),Cod R v→Cod R u→Fn P f [v,u] R [] (λx _ A=>x = .bool true∧A = [])) {w:World} {a a' : Option Addr} {len cap len' cap' : Nat} {zs zs' : List Int} (h:LV w a len cap zs) (h' : LV w a' len' cap' zs') :
  Calls P f #[.slice a len cap,.slice a' len' cap'] w λe w'=>e = .returned (.bool true)∧Blk w w':=by
 have h1:=hw _ _ _ (Py h) (Py h') [] w.heap ⟨λb o hb=>hb,(λb o hm=>by cases hm),List.nodup_nil⟩ w rfl;refine h1.mono ?_;rintro e w' ⟨v,rfl,hs,R',A',h2,h3,rfl,h4⟩;refine⟨rfl,hs,λk hk=>?_⟩;have:=h3.rd k _ (h2 k _ (VA hk));rw[this,VA hk]
section rules
variable {R:RM} {D:Chs} {k:Value→M}
end rules
def pr (e:MapEntry):Value × Value:=(e.key,e.val)
def pk (p:Int × Value):Value × Value:=(I p.1,p.2)
def Mg (o:Obj) (l:List (Int × Value)):Prop:=∃es clock,o = .map es clock∧MapKept.Stamped es clock∧es.toList.map pr = l.map pk
theorem Sj {es:Array MapEntry} {clock:Nat} {l:List (Int × Value)} (hs:MapKept.Stamped es clock) (h:es.toList.map pr = l.map pk):(l.map Prod.fst).Nodup:=by
 have h1:=((MapKept.stamped_iff _ _).1 hs).2.2;have h2:(es.toList.map (·.key)).Nodup:=List.pairwise_map.2 h1;have h3:es.toList.map (·.key) = (l.map Prod.fst).map I:=by
  have:=congrArg (List.map Prod.fst) h;simpa [List.map_map,Function.comp_def,pr,pk] using this
 rw[h3] at h2;exact (List.pairwise_map.1 h2).imp λh e=>h (by rw[e])
theorem Mg.nd {o:Obj} {l:List (Int × Value)} (h:Mg o l):(l.map Prod.fst).Nodup:=by
 obtain⟨es,clock,_,hs,h⟩:=h;exact Sj hs h
def Li (R:RM) (D:Chs) (b:Nat) (o:Obj):Prop:=∀h,St h R D→h[b]? = some o
theorem Li.fz {R:RM} {D:Chs} {b:Nat} {o:Obj} (h:R b = some o):Li R D b o:=λ_ hs=>hs.rd _ _ h
theorem Li.at {R:RM} {D:Chs} {b:Nat} {o:Obj} [a:At D b o]:Li R D b o:=λ_ hs=>(hs.at_ _ _ a.m).1
section rules
variable {R:RM} {D:Chs} {k:Value→M}
end rules
section
variable {R:RM} {D:Chs} {t:List Rg} {sp:List Value} {b cap:Nat}
end
section
variable {R:RM} {D:Chs} {t:List Rg} {sp:List Value} {b cap:Nat}
end
section
variable {R:RM} {D:Chs} {t:List Rg} {sp:List Value} {b cap:Nat}
end
section
variable {R:RM} {D:Chs} {t:List Rg} {sp:List Value} {b cap:Nat}
end
theorem getD_some {w:List Int} {j:Nat} (h:j < w.length):w[j]? = some (w.getD j 0):=by
 rw[Ty,Tl h];rfl
end Go.Lf
end
section
namespace Sm
open Go.Lf
def Ms (s:Ah):Bool:=BW s.A5.length && BF s.A0 && s.A0.length == s.A5.length / 16 && s.AJ.length == s.A5.length
def OL (s:Ah):Option (List AV):=if Ms s then BP s else none
def OZ (s:Ah) (a:Int):Bool:=decide (0≤AQ a) && decide (AQ a < s.A0.length) && (rv s.A0 (AQ a)).kind == 4
def P6 (s:Ah) (l:List AV) (t:AV):Bool:=t.moved == t.at_ || match CD l t.moved with
 | none=>false
 | some n=>n.sh == t.sh && n.moved == n.at_ && !OZ s n.at_ && OZ s t.at_
def OR (s:Ah) (l:List AV):Bool:=l.all (P6 s l)
def T9 (t:Th):Bool:=decide (t.AA.length≤8) && decide (0≤t.BB) && decide (t.BB≤2)
def N9 (s:Ah) (l:List AV) (a:Int):Bool:=match CD l a with
 | none=>false
 | some t=>t.moved == a && !OZ s a
def Pl (s:Ah) (l:List AV):Bool:=OR s l && decide (0≤s.AW) && decide (s.AW≤3) && decide (1≤s.AB.length) && decide (s.AB.length≤3) && decide (s.AI.length≤8) && s.AB.all T9 && s.AI.all (N9 s l)
def JV (s:Ah):List Int:=s.AB.flatMap (·.AA) ++ s.AI
theorem LH {w:List Int}:∀{n:Nat} {a top:Int} {l:List AV},Ag w n a top = some l→l.Pairwise (λx y=>x.at_ + AC x.sh≤y.at_)∧∀t∈l,a≤t.at_∧t.at_ + AC t.sh≤top∧2≤AC t.sh∧(Am w t.at_) = (t,true)
 | 0,a,top,l,h=>by
  unfold Ag at h;split at h
  ·cases h
  ·cases h;exact⟨List.Pairwise.nil,λt ht=>by cases ht⟩
 | n + 1,a,top,l,h=>by
  unfold Ag at h;split at h;rotate_left
  ·cases h;exact⟨List.Pairwise.nil,λt ht=>by cases ht⟩
  dsimp only at h;split at h;rotate_left
  ·cases h
  rename_i h1 h2;simp only[z_b,z_d] at h2;have hs:=IT h2.1;have ha:(Am w a).1.at_ = a:=by
   have:=h2.1;unfold Am at this ⊢;split at this
   ·rename_i c1;rw[if_pos c1];dsimp only at this ⊢;split at this
    ·rename_i c2;rw[if_pos c2]
    ·cases this
   ·cases this
  cases ht:Ag w n (a + AC (Am w a).1.sh) top with
  | none=>rw[ht] at h;cases h
  | some l2=>
   rw[ht] at h;cases h;obtain⟨i1,i2⟩:=LH ht;refine⟨List.pairwise_cons.2 ⟨λy hy=>by have:=i2 y hy;rw[ha];omega,i1⟩,λt ht=>?_⟩;rcases Tv.1 ht with rfl | ht
   ·exact⟨by rw[ha];omega,by rw[ha];exact h2.2,hs,by rw[ha,← h2.1]⟩
   ·have:=i2 t ht;exact⟨ω,this.2⟩
theorem Q7 {w:List Int} {r:Nat} {top:Int} {l:List AV} (h:BR w r top = some l):l.Pairwise (λx y=>x.at_ + AC x.sh≤y.at_)∧∀t∈l,16 * (r:Int)≤t.at_∧t.at_ + AC t.sh≤top∧top≤16 * r + 16∧2≤AC t.sh∧Am w t.at_ = (t,true):=by
 unfold BR at h;split at h;rotate_left
 ·cases h
 rename_i c;simp only[z_b,z_d] at c;obtain⟨⟨⟨⟨c1,c2⟩,c3⟩,c4⟩,c5⟩:=c;have:(r:Int) < 12:=by
  unfold BW at c1;simp only[z_b,z_d] at c1;omega
 have hb:=CT (r:=(r:Int)) ω this;obtain⟨i1,i2⟩:=LH h;exact⟨i1,λt ht=>by have:=i2 t ht;rw[hb] at this c5;exact⟨this.1,this.2.1,c5,this.2.2⟩⟩
theorem HH {w:List Int}:∀{t:List Rg} {r:Nat} {l:List AV},BI w r t = some l→l.Pairwise (λx y=>x.at_ + AC x.sh≤y.at_)∧∀x∈l,16 * (r:Int)≤x.at_∧2≤AC x.sh∧Am w x.at_ = (x,true)∧∃k:Nat,∃h:k < t.length,x.at_ / 16 = r + k∧x.at_ + AC x.sh≤(t[k]).top∧(t[k]).top≤16 * (r + k) + 16
 | [],r,l,h=>by cases h;exact⟨List.Pairwise.nil,λt ht=>by cases ht⟩
 | x :: t,r,l,h=>by
  unfold BI at h;cases h1:BR w r x.top with
  | none=>rw[h1] at h;cases h
  | some a=>
   rw[h1] at h;dsimp only at h;cases h2:BI w (r + 1) t with
   | none=>rw[h2] at h;cases h
   | some b=>
    rw[h2] at h;cases h;obtain⟨i1,i2⟩:=Q7 h1;obtain⟨j1,j2⟩:=HH h2;refine⟨List.pairwise_append.2 ⟨i1,j1,λy hy z hz=>?_⟩,λy hy=>?_⟩
    ·have:=i2 y hy;have:=j2 z hz;omega
    ·rcases U7.1 hy with hy | hy
     ·have:=i2 y hy;exact⟨this.1,this.2.2.2.1,this.2.2.2.2,0,σ,ω,this.2.1,by simpa using this.2.2.1⟩
     ·obtain⟨g1,g2,g3,k,hk,g4,g5,g6⟩:=j2 y hy;exact⟨ω,g2,g3,k + 1,by simp;omega,ω,by simpa using g5,by simp only[List.getElem_cons_succ];omega⟩
theorem Rp {l:List AV} (h:l.Pairwise (λx y=>x.at_ + AC x.sh≤y.at_)) (hs:∀x∈l,2≤AC x.sh):(l.map AV.at_).Nodup:=by
 rw[List.Nodup,List.pairwise_map];exact h.imp_of_mem λ{a b} ha hb h e=>by have:=hs a ha;omega
theorem Ez {l:List AV} {a:Int} {t:AV} (h:CD l a = some t):t∈l∧t.at_ = a:=by
 unfold CD at h;exact⟨VC h,by simpa using List.find?_some h⟩
theorem Ol {l:List AV} (hn:(l.map AV.at_).Nodup) {t:AV} (h:t∈l):CD l t.at_ = some t:=by
 unfold CD;induction l with
 | nil=>cases h
 | cons x l ih=>
  rw[V6,Ux] at hn;rcases Tv.1 h with rfl | h
  ·rw[List.find?_cons_of_pos σ]
  ·have:x.at_≠t.at_:=λe=>hn.1 (e▸List.mem_map_of_mem h)
   rw[List.find?_cons_of_neg (by simpa using this)];exact ih hn.2 h
end Sm
end
section
namespace Go.Lf
open Go Sm
def RgZ (R:RM) (v:Value) (t:List Rg):Prop:=∃b c sp,v = S0 b t.length c∧R b = some (C AK (Aa eRg t ++ sp))∧t.length≤c
theorem RgZ.le {R R' : RM} {v:Value} {t:List Rg} (h:R.le R') (H:RgZ R v t):RgZ R' v t:=by
 obtain⟨b,c,sp,h1,h2,h3⟩:=H;exact⟨b,c,sp,h1,h _ _ h2,h3⟩
structure SF (R:RM) (s:Sm.Ah) (wv tv mv thv ov pv:Value):Prop where
 c:StC R s wv tv mv thv ov pv
 z:RgZ R tv s.A0
 b:StB 10 s
theorem SF.le {R R' : RM} {s:Sm.Ah} {wv tv mv thv ov pv:Value} (h:R.le R') (H:SF R s wv tv mv thv ov pv):SF R' s wv tv mv thv ov pv:=⟨H.c.le h,H.z.le h,H.b⟩
section st
variable {R:RM} {s:Sm.Ah} {wv tv mv thv ov pv:Value}
end st
def MpT (R:RM) (o:Obj) (l:List AV):Prop:=∃ps:List (Int × Value),Mg o ps∧ps.length = l.length∧∀i (h:i < ps.length) (h' : i < l.length),(ps[i]).1 = (l[i]).at_∧ThV R (ps[i]).2 (l[i])
theorem MpT.le {R R' : RM} {o:Obj} {l:List AV} (h:R.le R') (H:MpT R o l):MpT R' o l:=by
 obtain⟨ps,h1,h2,h3⟩:=H;exact⟨ps,h1,h2,λi a b=>⟨(h3 i a b).1,(h3 i a b).2.le h⟩⟩
section st
variable {R:RM} {s:Sm.Ah} {wv tv mv thv ov pv:Value}
end st
section st
variable {R:RM} {s:Sm.Ah} {wv tv mv thv ov pv:Value}
end st
section rules
variable {R:RM} {D:Chs} {k:Value→M}
theorem Tf {f:Nat} {cap:Array Value} {args:List Value} (hok:Nz P f = true) (H:J R D (CA P f (args ++ cap.toList) k)):J R D (CV P (.func (.func f) #[] cap) args k):=λh hs=>⟨hok,H h hs⟩
end rules
def eHp (s:Sm.Ah) (wv tv mv thv ov pv:Value) (mb:Nat) (v:Value):List Value:=[wv,tv,mv,I s.AW,.bool s.stop,.bool s.full,.bool s.Ai,I s.want,thv,ov,pv,I s.B8,I s.Be,.map (some mb),v]
section st
variable {R:RM} {s:Sm.Ah} {wv tv mv thv ov pv:Value} {l:List AV}
end st
end Go.Lf
end
section
namespace Sm
open Go.Lf
theorem CW {l:List AV} {x:Int} {r acc:List Int}:BX l (x :: r) acc = (now l x).bind λy=>BX l r (Cg acc y):=rfl
theorem Fa {l:List AV}:∀{xs ys acc:List Int},BX l (xs ++ ys) acc = (BX l xs acc).bind λo=>BX l ys o
 | [],ys,acc=>rfl
 | x :: xs,ys,acc=>by
  rw[zc,CW,CW];cases now l x with
  | none=>rfl
  | some y=>exact Fa
theorem GZ {l:List AV}:∀{ts:List Th} {acc:List Int},Cz l ts acc = BX l (ts.flatMap (·.AA)) acc
 | [],acc=>rfl
 | t :: ts,acc=>by
  rw[List.flatMap_cons,Fa];show (BX l t.AA acc).bind (λo=>Cz l ts o) = _;congr 1;funext o;exact GZ
theorem NB {s:Ah} {l:List AV}:∀{ps acc:List Int},ps.all (N9 s l) = true→BX l ps acc = some (ps.foldl Cg acc)
 | [],acc,_=>rfl
 | a :: ps,acc,h=>by
  rw[List.all_cons,z_b] at h;have h1:=h.1;unfold N9 at h1;have:now l a = some a:=by
   unfold now;split
   ·rename_i e;rw[e]
   ·cases ht:CD l a with
    | none=>rw[ht] at h1;cases h1
    | some t=>
     rw[ht] at h1;simp only[z_b,beq_iff_eq] at h1;rw[Option.map_some,h1.1]
  rw[CW,this];exact NB h.2
theorem Mf {s:Ah} {l:List AV} (h:s.AI.all (N9 s l) = true):DR s l = (BX l (JV s) []).bind λout=>BM l (l.length + 2) 0 out:=by
 unfold DR JV;rw[GZ,Fa];cases BX l (s.AB.flatMap (·.AA)) [] with
 | none=>rfl
 | some out=>rw[z_o,NB h];rfl
structure Stl (l:List AV):Prop where
 nd:(l.map AV.at_).Nodup
 at16:∀t∈l,16≤t.at_
 mv:∀t∈l,∃t'∈l,t'.at_ = t.moved
theorem Stl.nz {l:List AV} (S:Stl l):∀t∈l,t.moved≠0:=λt ht e=>by
 obtain⟨t',h1,h2⟩:=S.mv t ht;have:=S.at16 t' h1;omega
structure ER (l:List AV) (ac:List Int):Prop where
 nd:ac.Nodup
 th:∀a∈ac,∃t,CD l a = some t
theorem ER.put {l:List AV} {ac:List Int} (M:ER l ac) (S:Stl l) {x:Int} (h:x = 0∨∃t∈l,t.at_ = x):ER l (Cg ac x):=by
 unfold Cg;split
 ·exact M
 ·rename_i c;have c0:x≠0:=λe=>c (.inl e)
  have c1:x ∉ ac:=λe=>c (.inr e)
  refine⟨?_,λa ha=>?_⟩
  ·rw[List.nodup_append];refine⟨M.nd,σ,λa ha b hb e=>?_⟩;rw[U2.1 hb] at e;exact c1 (e▸ha)
  ·rcases U7.1 ha with ha | ha
   ·exact M.th a ha
   ·rw[U2.1 ha];rcases h with h | ⟨t,h1,h2⟩
    ·exact absurd h c0
    ·exact⟨t,by rw[← h2];exact Ol S.nd h1⟩
theorem ER.all {l:List AV} (S:Stl l):∀{xs ac ac' : List Int},ER l ac→BX l xs ac = some ac'→ER l ac'
 | [],ac,ac',M,h=>by cases h;exact M
 | x :: xs,ac,ac',M,h=>by
  rw[CW] at h;cases hn:now l x with
  | none=>rw[hn] at h;cases h
  | some y=>
   rw[hn] at h;refine ER.all S (M.put S ?_) h;unfold now at hn;split at hn
   ·cases hn;exact .inl rfl
   ·obtain⟨t,ht,rfl⟩:=Option.map_eq_some_iff.1 hn;exact .inr (S.mv t (Ez ht).1)
theorem ER.len {l:List AV} {ac:List Int} (M:ER l ac):ac.length≤l.length:=by
 have:ac.length≤(l.map AV.at_).length:=Dn M.nd λx hx=>by
  obtain⟨t,ht⟩:=M.th x hx;obtain⟨h1,h2⟩:=Ez ht;rw[← h2];exact List.mem_map_of_mem h1
 rwa [Tr] at this
theorem ER.nil {l:List AV}:ER l []:=⟨List.nodup_nil,λa h=>by cases h⟩
theorem Ex {l:List AV} {n i:Nat} {out:List Int} {t:AV} (hi:i < out.length) (ht:CD l out[i] = some t):BM l (n + 1) i out = (BX l t.refs out).bind λo=>BM l n (i + 1) o:=by
 conv=>lhs;unfold BM
 rw[Tl hi];dsimp only;rw[ht];rfl
theorem FA {l:List AV} {n i:Nat} {out:List Int} (hi:out.length≤i):BM l (n + 1) i out = some out:=by
 unfold BM;rw[UM hi]
end Sm
end
section
namespace Go.Lf
open Go Sm
section rules
variable {R:RM} {D:Chs} {k:Value→M}
end rules
section st
variable {R:RM} {s:Sm.Ah} {wv tv mv thv ov pv:Value} {l:List AV}
end st
def HpV (R:RM) (s:Sm.Ah) (wv tv mv thv ov pv:Value) (l:List AV) (met:List Int) (hb mb:Nat) (v:Value):Prop:=∃o,R hb = some (C 118 (eHp s wv tv mv thv ov pv mb v))∧R mb = some o∧MpT R o l∧B9 R v met
section st
variable {R:RM} {s:Sm.Ah} {wv tv mv thv ov pv:Value}
end st
end Go.Lf
end
section
namespace Go.Proofs
end Go.Proofs
namespace Go.Lf
open Go Sm Go.Sort
end Go.Lf
end
section
namespace Go.Lf
open Go Sm
section rules
variable {R:RM} {D:Chs} {k:Value→M}
end rules
end Go.Lf
end
section
namespace Sm
open Go.Lf
structure HpF (s:Ah) (l:List AV) (met:List Int):Prop where
 ths:OL s = some l
 head:Pl s l = true
 re:DR s l = some met
 S:Stl l
 M:ER l met
 asc:l.Pairwise (λx y=>x.at_ + AC x.sh≤y.at_)
end Sm
namespace Go.Lf
open Go Sm
section st
variable {R:RM} {s:Sm.Ah} {wv tv mv thv ov pv:Value} {l:List AV} {met:List Int}
end st
end Go.Lf
end
section
namespace Go.Lf
open Go Sm
section rules
variable {R:RM} {D:Chs} {k:Value→M}
theorem Td {lv:List Nat} {B:(List Value→M)→Env→M} (pre:List Value) (n:Nat) (p:Nat→Prop) (h0:p 0)
  (H:∀(i:Nat) K e,i≤n→p i→(i < n→p (i + 1)→J R D (K (pre ++ [I ((i:Int) + 1)])))→lv.map e = pre ++ [I i]→J R D (B K e)):J R D (LP lv B (pre ++ [I 0])):=by
 refine jlp (λm vs R' D'=>R' = R∧D' = D∧∃i:Nat,i≤n∧m = n - i∧p i∧vs = pre ++ [I i]) (n:=n) ⟨rfl,rfl,0,ω,ω,h0,rfl⟩ ?_;rintro m e R1 D1 K ⟨hR,hD,i,hi,hm,hp,he⟩ hK;subst hR hD;exact H i K e hi hp (λh hp'=>hK (n - (i + 1)) _ _ _ ω ⟨rfl,rfl,i + 1,ω,rfl,hp',rfl⟩) he
end rules
end Go.Lf
end
section
namespace Sm
open Go.Lf
end Sm
namespace Sm
open Go.Lf
end Sm
namespace Go.Lf
open Go Sm
section st
variable {R:RM} {s:Sm.Ah} {wv tv mv thv ov pv:Value}
end st
end Go.Lf
end
section
namespace Go.Lf
open Go Sm
def mkB (n:Nat) (xs:List Int):List Bool:=(List.range n).map λ(i:Nat)=>decide ((i:Int)∈xs)
section st
variable {R:RM} {s:Sm.Ah} {wv tv mv thv ov pv:Value}
end st
section rules
variable {R:RM} {D:Chs} {k:Value→M}
end rules
def DSF (x:Value) (R:RM):Prop:=∃(s:Sm.Ah) (wv tv mv thv ov pv:Value),x = .agg (eSt s wv tv mv thv ov pv).toArray∧s.Be≤90000∧SF R s wv tv mv thv ov pv
theorem DSF.cut {x:Value} {R:RM} (h:DSF x R):∃(s:Sm.Ah) (wa:Option Addr) (wc tb tc:Nat) (ma:Option Addr) (mc:Nat) (ta:Option Addr) (thc:Nat) (oa:Option Addr) (oc:Nat) (pa:Option Addr) (pc:Nat),x = .agg (eSt s (.slice wa s.A5.length wc) (S0 tb s.A0.length tc) (.slice ma s.AJ.length mc) (.slice ta s.AB.length thc) (.slice oa s.old.length oc) (.slice pa s.AI.length pc)).toArray∧s.Be≤90000∧SF R s (.slice wa s.A5.length wc) (S0 tb s.A0.length tc) (.slice ma s.AJ.length mc) (.slice ta s.AB.length thc) (.slice oa s.old.length oc) (.slice pa s.AI.length pc):=by
 obtain⟨s,wv,tv,mv,thv,ov,pv,rfl,hfu,h⟩:=h;obtain⟨tb,tc,sp,rfl,hb,htc⟩:=h.z;obtain⟨wa,wc,rfl⟩:=h.c.w.sl;obtain⟨ma,mc,rfl⟩:=h.c.m.sl;obtain⟨tha,thc,rfl⟩:=h.c.th.sl;obtain⟨oa,oc,rfl⟩:=h.c.o.sl;obtain⟨pa,pc,rfl⟩:=h.c.p.sl;exact⟨s,wa,wc,tb,tc,ma,mc,tha,thc,oa,oc,pa,pc,rfl,hfu,h⟩
end Go.Lf
end
section
namespace Sm
open Go.Lf
end Sm
namespace Go.Lf
open Go Sm
section st
variable {R:RM} {s:Sm.Ah} {wv tv mv thv ov pv:Value}
theorem Se {l:List AV} {met:List Int} (hf:HpF s l met):BP s = some l:=by
 have h1:=hf.ths;unfold OL at h1;split at h1
 ·exact h1
 ·cases h1
theorem TP {l:List AV} {met:List Int} (hf:HpF s l met) {a:Int} (ha:a∈met):∃t,CD l a = some t∧Am s.A5 a = (t,true):=by
 obtain⟨t,ht⟩:=hf.M.th a ha;obtain⟨h1,h2⟩:=Ez ht;have h3:=Se hf;unfold BP at h3;have:=((HH h3).2 t h1).2.2.1;rw[h2] at this;exact⟨t,ht,this⟩
end st
end Go.Lf
end
section
namespace Go.Lf
open Go Sm
theorem Oj {R:RM} {v:Value} (hc:Cod R v):∃n:Nat,∃a c,v = .slice a n c:=by
 obtain⟨n,hf⟩:=hc;exact⟨n,hf.sl⟩
section rules
variable {R:RM} {D:Chs} {k:Value→M}
end rules
end Go.Lf
end
section
namespace Sm
open Go.Lf
theorem Pb {had:List Int} {a x:Int}:x∈had→x∈Cg had a:=λh=>by
 unfold Cg;split
 ·exact h
 ·exact UH _ h
theorem NN {had:List Int} {a:Int}:a = 0∨a∈Cg had a:=by
 unfold Cg;split
 ·rename_i h;rcases h with h | h
  ·exact .inl h
  ·exact .inr h
 ·exact .inr σ
theorem Dl {l:List AV}:∀{xs acc r:List Int},BX l xs acc = some r→∀x∈acc,x∈r
 | [],acc,r,h,x,hx=>by cases h;exact hx
 | a :: xs,acc,r,h,x,hx=>by
  rw[CW] at h;cases hn:now l a with
  | none=>rw[hn] at h;cases h
  | some y=>rw[hn] at h;exact Dl (xs:=xs) h x (Pb hx)
theorem Ds {l:List AV}:∀{xs acc r:List Int},BX l xs acc = some r→∀a∈xs,∃x,now l a = some x∧(x = 0∨x∈r)
 | [],acc,r,h,a,ha=>by cases ha
 | b :: xs,acc,r,h,a,ha=>by
  rw[CW] at h;cases hn:now l b with
  | none=>rw[hn] at h;cases h
  | some y=>
   rw[hn] at h;have h:BX l xs (Cg acc y) = some r:=h;rcases Tv.1 ha with rfl | ha
   ·refine⟨y,hn,?_⟩;rcases NN (had:=acc) (a:=y) with e | e
    ·exact .inl e
    ·exact .inr (Dl h _ e)
   ·exact Ds (xs:=xs) h a ha
theorem Gx {l:List AV}:∀{n i:Nat} {out r:List Int},BM l n i out = some r→(∀j (h:j < out.length),j < i→∀t,CD l out[j] = some t→∀a∈t.refs,∃x,now l a = some x∧(x = 0∨x∈r))→
  (∀x∈out,x∈r)∧∀b∈r,∀t,CD l b = some t→∀a∈t.refs,∃x,now l a = some x∧(x = 0∨x∈r)
 | 0,i,out,r,h,_=>by cases h
 | n + 1,i,out,r,h,hj=>by
  by_cases c:i < out.length
  ·cases ht:CD l out[i] with
   | none=>
    unfold BM at h;rw[Tl c] at h;dsimp only at h;rw[ht] at h;cases h
   | some t=>
    rw[Ex c ht] at h;cases hn:BX l t.refs out with
    | none=>rw[hn] at h;cases h
    | some o=>
     rw[hn,z_o] at h;have hpre:∀{xs acc r:List Int},BX l xs acc = some r→∃e,r = acc ++ e:=by
      intro xs;induction xs with
      | nil=>intro acc r h;cases h;exact⟨[],σ⟩
      | cons a xs ih=>
       intro acc r h;rw[CW] at h;cases hn:now l a with
       | none=>rw[hn] at h;cases h
       | some y=>
        rw[hn] at h;obtain⟨e,he⟩:=ih h;unfold Cg at he;split at he
        ·exact⟨e,he⟩
        ·exact⟨[y] ++ e,by rw[he,Tu]⟩
     obtain⟨e,he⟩:=hpre hn;have mono:∀{n i:Nat} {out r:List Int},BM l n i out = some r→∀x∈out,x∈r:=by
      intro n;induction n with
      | zero=>intro i out r h;cases h
      | succ n ih=>
       intro i out r h x hx;by_cases c:i < out.length
       ·cases ht:CD l out[i] with
        | none=>
         unfold BM at h;rw[Tl c] at h;dsimp only at h;rw[ht] at h;cases h
        | some t=>
         rw[Ex c ht] at h;cases hn:BX l t.refs out with
         | none=>rw[hn] at h;cases h
         | some o=>rw[hn] at h;exact ih h x (Dl hn x hx)
       ·rw[FA ω] at h;cases h;exact hx
     have hm:=mono h;have:=Gx h λj hjl hji t' ht' a ha=>?_
     ·exact⟨λx hx=>this.1 x (Dl hn x hx),this.2⟩
     ·have hjo:j < out.length:=ω
      have e1:o[j] = out[j]:=by subst he;rw[V1 hjo]
      rw[e1] at ht';by_cases cj:j = i
      ·subst cj;rw[ht] at ht';cases ht';obtain⟨x,h1,h2⟩:=Ds hn a ha;exact⟨x,h1,h2.elim .inl λh=>.inr (hm x h)⟩
      ·exact hj j hjo ω t' ht' a ha
  ·rw[FA ω] at h;cases h;refine⟨λx hx=>hx,λb hb t ht a ha=>?_⟩;obtain⟨j,hj',rfl⟩:=UE hb;exact hj j hj' ω t ht a ha
theorem HpF.closed {s:Ah} {l:List AV} {met:List Int} (hf:HpF s l met):(∀a∈JV s,∃x,now l a = some x∧(x = 0∨x∈met))∧∀b∈met,∀t,CD l b = some t→∀a∈t.refs,∃x,now l a = some x∧(x = 0∨x∈met):=by
 have hh:=hf.head;unfold Pl at hh;simp only[z_b] at hh;have hr:=hf.re;rw[Mf hh.2] at hr;cases hn:BX l (JV s) [] with
 | none=>rw[hn] at hr;cases hr
 | some out=>
  rw[hn,z_o] at hr;obtain⟨h1,h2⟩:=Gx hr λj h hj=>absurd hj ω
  refine⟨λa ha=>?_,h2⟩;obtain⟨x,e1,e2⟩:=Ds hn a ha;exact⟨x,e1,e2.elim .inl λh=>.inr (h1 x h)⟩
end Sm
end
section
namespace Go.Lf
open Go Sm
section st
variable {R:RM} {s:Sm.Ah} {wv tv mv thv ov pv:Value} {l:List AV} {met:List Int}
end st
end Go.Lf
end
section
namespace Sm
structure PG where
 nodes:List (List Int × List Int)
 AA:List (List Int)
 pinned:List Int
end Sm
namespace Go.Lf
open Go Sm
section rules
variable {R:RM} {D:Chs}
theorem jci {ι:Type} {lv:List Nat} {B:(List Value→M)→M} {K:Env→M} (V:ι→List Value) (E:ι→Chs) (p:RM→ι→Prop)
  (H1:∀K' : List Value→M,(∀R' i,p R' i→J R' (E i) (K' (V i)))→J R D (B K')) (H2:∀e R' i,p R' i→lv.map e = V i→J R' (E i) (K e)):J R D (CUT lv B K):=
 AY (λvs R' D'=>∃i,p R' i∧D' = E i∧vs = V i) (λK' h=>H1 K' λ_ i hp=>h _ _ _ ⟨i,hp,rfl,rfl⟩) λe R' D' ⟨i,hp,h2,h3⟩=>by
  rw[h2];exact H2 e R' i hp h3
theorem jiI {ι:Type} {lv2:List Nat} {B:(List Value→M)→M} {K1:List Value→M} {V:ι→List Value} {E:ι→Chs} {p:RM→ι→Prop} (hK:∀R' i,p R' i→J R' (E i) (K1 (V i)))
  (H:∀K' : List Value→M,(∀R' i,p R' i→J R' (E i) (K' (V i)))→J R D (B K')):J R D (CUT lv2 B (λe=>K1 (lv2.map e))):=jci V E p H λe R' i h he=>by rw[he];exact hK R' i h
theorem jli {ι:Type} {lv:List Nat} {B:(List Value→M)→Env→M} {vs:List Value} (n:ι→Nat) (V:ι→List Value) (E:ι→Chs) (p:RM→ι→Prop) (i:ι) (h0:p R i) (hv:vs = V i) (hD:D = E i)
  (H:∀K e R' i,p R' i→lv.map e = V i→(∀R'' i',n i' < n i→p R'' i'→J R'' (E i') (K (V i')))→J R' (E i) (B K e)):J R D (LP lv B vs):=by
 subst hv;refine jlp (λm vs R' D'=>∃i,p R' i∧D' = E i∧vs = V i∧m = n i) (n:=n i) ⟨i,h0,hD,rfl,rfl⟩ ?_;rintro m e R1 D1 K ⟨i,hp,h2,h3,h4⟩ hK;rw[h2];exact H K e R1 i hp h3 λR'' i' hn hp'=>hK (n i') _ _ _ ω ⟨i',hp',rfl,rfl,rfl⟩
end rules
def NdC (R:RM) (row:List Value) (n:List Int × List Int):Prop:=∃rv nv,row = [rv,nv]∧B9 R rv n.1∧B9 R nv n.2
theorem NdC.le {R R' : RM} {row:List Value} {n:List Int × List Int} (h:R.le R') (H:NdC R row n):NdC R' row n:=by
 obtain⟨a,b,h1,h2,h3⟩:=H;exact⟨a,b,h1,h2.le h,h3.le h⟩
theorem NdC.len {R:RM} {row:List Value} {n:List Int × List Int} (H:NdC R row n):row.length = 2:=by obtain⟨a,b,rfl,_⟩:=H;rfl
def RwC (R:RM) (row:List Value) (l:List Int):Prop:=∃v,row = [v]∧B9 R v l
theorem RwC.le {R R' : RM} {row:List Value} {l:List Int} (h:R.le R') (H:RwC R row l):RwC R' row l:=by
 obtain⟨a,h1,h2⟩:=H;exact⟨a,h1,h2.le h⟩
theorem RwC.len {R:RM} {row:List Value} {l:List Int} (H:RwC R row l):row.length = 1:=by obtain⟨a,rfl,_⟩:=H;rfl
def GrF (R:RM) (v:Value) (g:PG):Prop:=∃r1 r2 nv rv pv,v = .agg #[nv,rv,pv]∧Rw (NdC R) r1 g.nodes∧Fz R nv 2 r1.length r1.flatten∧Rw (RwC R) r2 g.AA∧Fz R rv 1 r2.length r2.flatten∧B9 R pv g.pinned
theorem GrF.le {R R' : RM} {v:Value} {g:PG} (h:R.le R') (H:GrF R v g):GrF R' v g:=by
 obtain⟨r1,r2,nv,rv,pv,h1,h2,h3,h4,h5,h6⟩:=H;exact⟨r1,r2,nv,rv,pv,h1,h2.mono λ_ _=>NdC.le h,h3.le h,h4.mono λ_ _=>RwC.le h,h5.le h,h6.le h⟩
section st
variable {R:RM} {s:Sm.Ah} {wv tv mv thv ov pv:Value} {l:List AV} {met:List Int}
theorem HpV.le {R R' : RM} {hb mb:Nat} {v:Value} (h:R.le R') (H:HpV R s wv tv mv thv ov pv l met hb mb v):HpV R' s wv tv mv thv ov pv l met hb mb v:=by
 obtain⟨o,h1,h2,h3,h4⟩:=H;exact⟨o,h _ _ h1,h _ _ h2,h3.le h,h4.le h⟩
end st
end Go.Lf
end
section
namespace Sm
structure Cl where
 thread:Int
 next:Int
 from_:Int
 to_:Int
 ans:Int
 code:Int
def cl0:Cl:=⟨0,0,0,0,0,0⟩
def ev0:Ev:=⟨0,0,0,0⟩
@[reducible] def FX (S:Sim) (k:Nat):Thr:=S.th.getD k (thr0 [] 0 0)
def C6 (S S' : Sim) (i k:Nat) (out:List Cl) (op:List Int):List Cl × List Int:=
 if (decide (op.getD k 0 < 0) && (((FX S' k).pc != 0) || decide ((S'.ev.length:Int) > S.ev.length))) = true then (out ++ [⟨k,(FX S k).next,i,-1,0,0⟩],op.set k out.length) else (out,op)
def DF (S S' : Sim) (i k:Nat) (q:List Cl × List Int):List Cl × List Int:=
 if S.ev.length < S'.ev.length then
  (q.1.set (q.2.getD k 0).toNat { q.1.getD (q.2.getD k 0).toNat cl0 with to_:=i,ans:=(S'.ev.getD S.ev.length ev0).ans,code:=(S'.ev.getD S.ev.length ev0).code },q.2.set k (-1))
 else q
def Cj (S S' : Sim) (i:Nat) (p:Int) (out:List Cl) (op:List Int):List Cl × List Int:=
 if 0≤p∧p < S.th.length then DF S S' i p.toNat (C6 S S' i p.toNat out op) else (out,op)
def Ee:List Int→Nat→Sim→List Cl→List Int→Option (List Cl)
 | [],_,_,out,_=>some out
 | p :: l,i,S,out,op=>do
  let S' ← S.pick p
  let q:=Cj S S' i p out op
  Ee l (i + 1) S' q.1 q.2
structure HI (n i:Nat) (out:List Cl) (op:List Int):Prop where
 ol:op.length = n
 le:out.length≤i
 op_:∀k (h:k < op.length),-1≤op[k]∧op[k] < out.length
theorem C7 {α:Type} {l:List α} {k:Nat} {d:α} (h:k < l.length):l.getD k d = l[k]:=by
 rw[Ty,Tl h];rfl
theorem HI.opn {n i k:Nat} {out:List Cl} {op:List Int} {S S' : Sim} (H:HI n i out op) (hk:k < n):HI n (i + 1) (C6 S S' i k out op).1 (C6 S S' i k out op).2∧(S.ev.length < S'.ev.length→0≤(C6 S S' i k out op).2.getD k 0):=by
 have ol:=H.ol;have le:=H.le;unfold C6;split
 ·refine⟨⟨by simp[ol],by simp;omega,λj hj=>?_⟩,λ_=>?_⟩
  ·have hj:j < op.length:=by simpa using hj
   simp only[List.getElem_set,Tn,U0];have:=H.op_ j hj;split<;>omega
  ·dsimp only;rw[C7 (by simp;omega),List.getElem_set,if_pos rfl];omega
 ·rename_i h;refine⟨⟨ol,by dsimp only;omega,H.op_⟩,λhe=>?_⟩;dsimp only;have:¬ (op.getD k 0 < 0):=λhlt=>h (by
   rw[z_b,U8]
   exact⟨decide_eq_true hlt,.inr (decide_eq_true ω)⟩)
  omega
theorem HI.fin {n i i₀ k:Nat} {q:List Cl × List Int} {S S' : Sim} (H:HI n i q.1 q.2):HI n i (DF S S' i₀ k q).1 (DF S S' i₀ k q).2:=by
 unfold DF;split
 ·refine⟨by simp[H.ol],by simp[H.le],λj hj=>?_⟩;have hj:j < q.2.length:=by simpa using hj
  have:=H.op_ j hj;simp only[List.getElem_set,U3];split<;>omega
 ·exact H
end Sm
end
section
namespace Go.Lf
open Go Sm
def eCl (c:Cl):List Value:=[I c.thread,I c.next,I c.from_,I c.to_,I c.ans,I c.code]
theorem DS {l:List Cl}:∀r∈l.map eCl,r.length = 6:=by
 intro r h;obtain⟨c,_,rfl⟩:=UK.1 h;rfl
structure HX where
 i:Nat
 S:Sim
 g:Img
 out:List Cl
 op:List Int
 v:Value
 A:Chs
theorem jth {R:RM} {D G:Chs} {p f k:Nat} {S:Sim} {g:Img} {c:Value} {m:Value→M} [w:Fd D p S g G] (hok:Ok R S g) (hk:k < S.th.length) (hv:∀rv,(Ac (S.th[k]) rv)[f]? = some c) (H:J R D (m c)) :
  J R D (L1 (.pointer (some ⟨p,17,none⟩)) λx=>IA 17 x (I (k:Int)) λy=>FO f y λz=>L1 z m):=by
 have h2:k < g.rv.length:=by have:=hok.rvl;omega
 refine Aj w.ex (jl rfl (Bk hk (jl ?_ (Aj w.ex.symm H))));rw[Tw];exact IZ hk h2 (hv _)
theorem S5 {R:RM} {D G:Chs} {p:Nat} {S:Sim} {g:Img} {m:Value→M} [w:Fd D p S g G] (hok:Ok R S g) (H:J R D (m (I S.ev.length))):J R D (L1 (.pointer (some ⟨p,33,none⟩)) λx=>LN x m):=by
 refine Aj w.ex (jl rfl (Aj w.ex.symm ?_));unfold evV;cases h:g.ev with
 | none=>
  have:S.ev = []:=hok.ev0 h;rw[this] at H;exact H
 | some x=>exact H
theorem TQ {R:RM} {D G:Chs} {p n f:Nat} {S:Sim} {g:Img} {c:Value} {m:Value→M} [w:Fd D p S g G] (hok:Ok R S g) (hn:n < S.ev.length) (hv:(eEv (S.ev[n]))[f]? = some c) (H:J R D (m c)) :
  J R D (L1 (.pointer (some ⟨p,33,none⟩)) λx=>IA 4 x (I (n:Int)) λy=>FO f y λz=>L1 z m):=by
 refine Aj w.ex (jl rfl ?_);have hev:∃b c,g.ev = some (b,c):=by
  cases h:g.ev with
  | none=>rw[hok.ev0 h] at hn;exact absurd hn σ
  | some x=>exact⟨x.1,x.2,rfl⟩
 obtain⟨b,ca,h⟩:=hev;have e1:evV S g = S0 b S.ev.length ca:=by unfold evV;rw[h]
 have e2:evD S g = [(b,C DA (Aa eEv S.ev ++ g.esp))]:=by unfold evD;rw[h]
 show J R _ (IA 4 (evV S g) (I (n:Int)) _);rw[e1];refine Bk hn (@jl _ _ _ b _ DA (Aa eEv S.ev ++ g.esp) c ⟨?_⟩ ?_ (Aj w.ex.symm H))
 ·refine UH _ ?_;unfold AU;rw[e2];simp
 ·have:=Cs (w:=4) (sp:=g.esp) (f:=eEv) (λ_=>rfl) hn;have e:=congrArg (λl=>l[f]?) this;have hf:f < 4:=by
   by_cases c' : f < 4
   ·exact c'
   ·rw[UM (by show 4≤f;omega)] at hv;cases hv
  simp only[List.getElem?_take_of_lt hf,UX] at e;rw[Tw,e];exact hv
theorem TC {A X F:Chs} {a b:Nat × Obj}:(A ++ (X ++ (a :: b :: F))).Perm (X ++ (a :: b :: (A ++ F))):=by
 rw[← Tu];refine (List.perm_append_comm.append_right _).trans ?_;rw[Tu];exact (U9.trans (U9.cons _)).append_left _
theorem N5 (N j:Nat) (h:j < N):(List.replicate j (-1:Int) ++ List.replicate (N - j) 0).set j (-1) = List.replicate (j + 1) (-1) ++ List.replicate (N - (j + 1)) 0:=by
 obtain⟨m,rfl⟩:∃m,N = j + 1 + m:=⟨N - (j + 1),ω⟩;rw[show j + 1 + m - j = m + 1 from ω,show j + 1 + m - (j + 1) = m from ω,List.replicate_succ (n:=m),Uo _ _ σ,List.replicate_succ' (n:=j)];simp
theorem M7 {R:RM} {r N:Nat} {rs:Int} {pv kv:Value} {AE:List (List Sm.Op)} {picks:List Int} {out:List Cl} (hp:Cy R pv AE) (hk:B9 R kv picks) (hok:BH ⟨r,N,rs⟩ AE picks = true) (ha:∀a∈picks,inR a)
  (hS:Ee picks 0 (Sm.start ⟨r,N,rs⟩ AE) [] (List.replicate N (-1)) = some out)
  (hst:∀i S,Sim.picks (picks.take i) (Sm.start ⟨r,N,rs⟩ AE) = some S→S.th.length = N∧∀p R g S1,Ok R S g→S.pause S.fuel = some S1→Fn P Cm [Pt p] R (AU p S g) (CK p S1 λ_=>True)) :
  Fn P EE [.agg #[I r,I N,I rs],pv,kv] R [] (λv R' A=>SW DX 6 (out.map eCl) v A):=by
 refine KG λF=>?_
 refine z_3 ?_;have hcf:Az ⟨r,N,rs⟩ = true:=by
  unfold BH at hok;simp only[z_b] at hok;exact hok.1.1.1
 have hpl:picks.length≤4000:=by
  unfold BH at hok;simp only[z_b,z_d] at hok;exact hok.1.2
 have hN:N≤3:=by
  have h:=hcf;unfold Az at h;simp only[z_b,z_d] at h;omega
 refine ja λb1=>(jla (l:=[I r,I N,I rs]) (UD rfl) rfl (jro (JF (c0:=⟨r,N,rs⟩) hp hk) ?_))
 rw[hok];refine DM (jla (l:=[I r,I N,I rs]) (UD rfl) rfl (jc (O0 (c:=⟨r,N,rs⟩) hcf hp) ?_));rintro _ R1 _ hR1 ⟨p,g,rfl,rfl,ok⟩;refine jl (v:=I N) rfl (jms ω ω ω λob=>?_);rw[Tj,show (List.replicate N (cl z3)).flatten = (List.replicate 0 (-1) ++ List.replicate (N - 0) 0).map I ++ [] from by rw[show cl z3 = [I 0] from rfl];simp[US]];refine AY (λvs R' D'=>R1 = R'∧D' = AU p (Sm.start ⟨r,N,rs⟩ AE) g ++ ((ob,C AZ ((List.replicate N (-1)).map I ++ [])) :: (b1,C 24 [I r,I N,I rs]) :: F)∧vs = [kv,Pt b1,Pt p,SN,S0 ob N N]) (λK hK=>?_) ?_
 ·refine jcI hK λK2 hK2=>(jli (λj=>N - j) (λj:Nat=>[kv,Pt b1,Pt p,SN,S0 ob N N,I j]) (λj=>(ob,C AZ ((List.replicate j (-1) ++ List.replicate (N - j) 0).map I ++ [])) :: (AU p (Sm.start ⟨r,N,rs⟩ AE) g ++ ((b1,C 24 [I r,I N,I rs]) :: F))) (λR' j=>R1 = R'∧j≤N) 0 ⟨rfl,ω⟩ rfl rfl ?_)
  rintro K3 e _ j ⟨rfl,hj⟩ he hK3;refine z_V ?_;refine jl (v:=I N) rfl (jlt (jif (λhc=>?_) (λhc=>?_)))
  ·have hc:=z_f hc;refine Bk ω (jsi (k:=j) (by simp;omega) (jad ?_));rw[N5 N j ω];exact hK3 _ (j + 1) ω ⟨rfl,ω⟩
  ·have hc:=z_g hc;have:j = N:=ω
   subst this;refine Aj U9.symm (hK2 _ _ _ ⟨rfl,?_,rfl⟩);simp
 rintro e _ _ ⟨rfl,rfl,he⟩;refine z_V ?_;refine AY (λvs R' D'=>∃v A G,R.le R'∧SW DX 6 (out.map eCl) v A∧D' = G ++ (A ++ F)∧vs = [v]) (λK hK=>?_) ?_;rotate_left
 ·rintro e R2 _ ⟨v,A,G,hR,so,rfl,he⟩;refine z_V ?_;exact BC hR so
 refine jcI hK λK2 hK2=>?_
 refine jli (λx:HX=>picks.length - x.i) (λx=>[kv,Pt b1,Pt p,x.v,S0 ob N N,I x.i])
  (λx=>AU p x.S x.g ++ ((ob,C AZ (x.op.map I ++ [])) :: (b1,C 24 [I r,I N,I rs]) :: (x.A ++ F)))
  (λR' x=>R1.le R'∧x.i≤picks.length∧Sim.picks (picks.take x.i) (Sm.start ⟨r,N,rs⟩ AE) = some x.S∧Ee (picks.drop x.i) x.i x.S x.out x.op = some out∧Ok R' x.S x.g∧SW DX 6 (x.out.map eCl) x.v x.A∧HI N x.i x.out x.op)
  ⟨0,Sm.start ⟨r,N,rs⟩ AE,g,[],List.replicate N (-1),SN,[]⟩ ⟨RM.le.refl _,VG _,rfl,by rw[Ur];exact hS,ok,.inl ⟨rfl,rfl,rfl⟩,⟨σ,σ,λk h=>σ⟩⟩ rfl rfl ?_
 rintro K3 e R2 ⟨i,S,g,out1,op,v,A⟩ ⟨hR,hi,hpk,hrest,ok1,so,hI⟩ he hK3;dsimp only at hi hpk hrest ok1 so hI he ⊢;refine z_V ?_;have hk2:=hk.le (hR1.trans hR);refine Cq hk2.sl (jlt (jif (λhc=>?_) (λhc=>?_)));rotate_left
 ·have hc:=z_g hc;rw[Tx ω] at hrest;unfold Ee at hrest;cases hrest;exact hK2 _ _ _ ⟨v,A,_,hR1.trans hR,so,(Tu (AU p S g) [(ob,C AZ (op.map I ++ [])),(b1,C 24 [I r,I N,I rs])] (A ++ F)).symm,rfl⟩
 have hc:i < picks.length:=by have:=z_f hc;omega
 rw[Ts hc] at hrest;unfold Ee at hrest;obtain⟨S2,h2,hrest⟩:=A7 hrest;dsimp only at hrest;obtain⟨hth,hpz⟩:=hst i S hpk;have hpk2:Sim.picks (picks.take (i + 1)) (Sm.start ⟨r,N,rs⟩ AE) = some S2:=by
  rw[UL hc];exact HU _ _ hpk h2
 have hth2:=(hst (i + 1) S2 hpk2).1;refine AY (λvs R' D'=>∃x:HX,(R1.le R'∧x.i = i∧Ok R' S2 x.g∧SW DX 6 (x.out.map eCl) x.v x.A∧HI N (i + 1) x.out x.op∧(x.out,x.op) = Cj S S2 i (picks[i]) out1 op)∧D' = AU p S2 x.g ++ ((ob,C AZ (x.op.map I ++ [])) :: (b1,C 24 [I r,I N,I rs]) :: (x.A ++ F))∧vs = [kv,Pt b1,Pt p,x.v,S0 ob N N,I i]) (λK4 hK4=>?_) ?_;rotate_left
 ·rintro e R3 _ ⟨⟨i',S',g3,out3,op3,v3,A3⟩,⟨hR3,e3,ok3,so3,hI3,hq⟩,rfl,he⟩;dsimp only at e3 ok3 so3 hI3 hq he ⊢;refine z_V ?_;rw[← hq] at hrest;exact jad (hK3 _ ⟨i + 1,S2,g3,out3,op3,v3,A3⟩ (by dsimp only;omega) ⟨hR3,by dsimp only;omega,hpk2,hrest,ok3,so3,hI3⟩)
 refine jcI hK4 λK5 hK5=>?_
 refine Ca hk2 ω ω ?_;rw[getElem_congr_idx (Tj i)];generalize hpi:picks[i] = q at h2 hrest hK5 ⊢;have hq:inR q:=hpi▸ha _ (U6 hc);refine S5 ok1 ?_;refine AY (λvs R' D'=>R2 = R'∧D' = AU p S g ++ ((ob,C AZ (op.map I ++ [])) :: (b1,C 24 [I r,I N,I rs]) :: (A ++ F))∧vs = [kv,Pt b1,Pt p,v,S0 ob N N,I i,I q,I S.ev.length,I (if 0≤q∧q < N then (FX S q.toNat).next else 0)]) (λK6 hK6=>?_) ?_
 ·refine jan [kv,Pt b1,Pt p,v,S0 ob N N,I i,I q,I S.ev.length,I 0] (decide (q≥0) && decide (q < N)) (λK' hK'=>(jge (jgA hK' λh hk=>(jl (v:=I N) rfl (jlt hk))))) (λe c u ho he=>?_);refine z_V ?_;rw[ho];refine jif (λh=>?_) (λh=>?_)
  ·simp only[z_b,z_d] at h;rw[if_pos h] at hK6;obtain⟨k,rfl⟩:∃k:Nat,q = k:=⟨q.toNat,ω⟩;refine jth ok1 ω (λ_=>rfl) (hK6 _ _ _ ⟨rfl,rfl,?_⟩);rw[Tj,FX,Sm.C7 (l:=S.th) (k:=k) ω]
  ·rw[if_neg (λh'=>by simp[h'.1,h'.2] at h)] at hK6;exact hK6 _ _ _ ⟨rfl,rfl,rfl⟩
 rintro e _ _ ⟨rfl,rfl,he⟩;refine z_V ?_;refine jcS (Sb ok1 hq (hpz p) h2) λ_ R3 g3 hR3 _ ok3=>?_
 refine jor [kv,Pt b1,Pt p,v,S0 ob N N,I i,I q,I S.ev.length,I (if 0≤q∧q < N then (FX S q.toNat).next else 0)] (decide (q < 0) || decide (q≥N)) (λK' hK'=>(jlt (jgO hK' λh hk=>(jl (v:=I N) rfl (jge hk))))) (λe c u ho he=>?_);refine z_V ?_;rw[ho];refine jif (λh=>?_) (λh=>?_)
 ·simp only[U8,z_d] at h;refine hK5 _ _ _ ⟨⟨i,S2,g3,out1,op,v,A⟩,⟨hR.trans hR3,rfl,ok3,so,⟨hI.ol,by have:=hI.le;dsimp only;omega,hI.op_⟩,?_⟩,rfl,rfl⟩;unfold Cj;rw[if_neg ω]
 simp only[Tp,decide_eq_false_iff_not] at h;obtain⟨k,rfl⟩:∃k:Nat,q = k:=⟨q.toNat,ω⟩;have hkN:k < N:=ω
 rw[if_pos ω,Tj] at *;have hkl:k < op.length:=by have:=hI.ol;omega
 obtain⟨hI2,hop⟩:=hI.opn (S:=S) (S':=S2) hkN;have hst:Cj S S2 i k out1 op = DF S S2 i k (C6 S S2 i k out1 op):=by
  unfold Cj;rw[if_pos ω,Tj]
 rw[hst] at hK5;clear hst;refine AY (λvs R' D'=>∃v' A',SW DX 6 ((C6 S S2 i k out1 op).1.map eCl) v' A'∧R3 = R'∧D' = AU p S2 g3 ++ ((ob,C AZ ((C6 S S2 i k out1 op).2.map I ++ [])) :: (b1,C 24 [I r,I N,I rs]) :: (A' ++ F))∧vs = [kv,Pt b1,Pt p,v',S0 ob N N,I i,I k,I S.ev.length]) (λK7 hK7=>?_) ?_
 ·refine jan [kv,Pt b1,Pt p,v,S0 ob N N,I i,I k,I S.ev.length,I (FX S k).next] (decide (op.getD k 0 < 0) && (((FX S2 k).pc != 0) || decide ((S2.ev.length:Int) > S.ev.length))) (λK' hK'=>?_) (λe c u ho he=>?_)
  ·refine Bk hkN (jl (v:=I (op.getD k 0)) ?_ (jlt (jgA hK' λh1 hk1=>(jth ok3 (k:=k) (f:=3) (c:=I (FX S2 k).pc) ω (λ_=>?_) (jne ?_)))))
   ·rw[Tw,UY,UP,Uv,Tl hkl,Sm.C7 hkl];rfl
   ·rw[FX,Sm.C7 ω];rfl
   ·refine jgt (λhb=>?_) (λhb=>?_)
    ·rw[hb] at hk1 ⊢;exact S5 ok3 (jgr hk1)
    ·rw[hb] at hk1 ⊢;exact hk1
  refine z_V ?_;rw[ho];refine jif (λh1=>?_) (λh1=>?_)
  ·have e0:C6 S S2 i k out1 op = (out1 ++ [⟨k,(FX S k).next,i,-1,0,0⟩],op.set k out1.length):=by
    unfold C6;rw[if_pos h1]
   rw[e0] at hK7;refine jbd rfl rfl (jbs (cs:=eCl ⟨k,(FX S k).next,i,-1,0,0⟩) rfl rfl λlb=>(S6 [eCl ⟨k,(FX S k).next,i,-1,0,0⟩] so σ DS (λr hr=>by rw[U2.1 hr];rfl) rfl rfl rfl δ ?_ λv' A' so'=>?_))
   ·have:=hI.le;rw[Tr,U0];omega
   have so'' : SW DX 6 ((out1 ++ [(⟨k,(FX S k).next,i,-1,0,0⟩:Cl)]).map eCl) v' A':=by rw[Uk];exact so'
   refine Cq so''.sl (Iw (by rw[Tr,Tn,U0];have:=hI.le;exact⟨ω,ω⟩) (Bk hkN ?_));rw[Tr,Tn,U0,show ((out1.length + 1:Nat):Int) - 1 = (out1.length:Int) from ω];exact jsi hkl (Aj TC (hK7 _ _ _ ⟨v',A',so'',rfl,rfl,rfl⟩))
  ·have e0:C6 S S2 i k out1 op = (out1,op):=by
    unfold C6;rw[if_neg (by rw[h1];decide)]
   rw[e0] at hK7;exact hK7 _ _ _ ⟨v,A,so,rfl,rfl,rfl⟩
 rintro e _ _ ⟨v',A',so',rfl,rfl,he⟩;refine z_V ?_;generalize hq2:C6 S S2 i k out1 op = Q at *;obtain⟨out2,op2⟩:=Q;dsimp only at so' hI2 hop hK5 ⊢;have hfin:=hI2.fin (q:=(out2,op2)) (S:=S) (S':=S2) (i₀:=i) (k:=k);refine S5 ok3 (jgr (jif (λh1=>?_) (λh1=>?_)));rotate_left
 ·have h1:=z_g h1;have e0:DF S S2 i k (out2,op2) = (out2,op2):=by
   unfold DF;rw[if_neg ω]
  rw[e0] at hK5 hfin;exact hK5 _ _ _ ⟨⟨i,S2,g3,out2,op2,v',A'⟩,⟨hR.trans hR3,rfl,ok3,so',hfin,rfl⟩,rfl,rfl⟩
 have h1:=z_f h1;have h1' : S.ev.length < S2.ev.length:=ω
 have hk2l:k < op2.length:=by have:=hI2.ol;omega
 have h0:=hop h1';rw[Sm.C7 hk2l] at h0;have hb:=(hI2.op_ k hk2l).2;obtain⟨m,hm⟩:∃m:Nat,op2[k] = m:=⟨op2[k].toNat,ω⟩;have hml:m < out2.length:=ω
 have e0:DF S S2 i k (out2,op2) = (out2.set m ⟨(out2[m]).thread,(out2[m]).next,(out2[m]).from_,i,(S2.ev[S.ev.length]).ans,(S2.ev[S.ev.length]).code⟩,op2.set k (-1)):=by
  unfold DF;rw[if_pos h1'];dsimp only;rw[Sm.C7 hk2l,hm,Tj,Sm.C7 hml,Sm.C7 h1']
 rw[e0] at hK5 hfin;have hcell:(op2.map I ++ [])[0 + k * 1]? = some (I m):=by
  rw[Tw,UY,UP,Uv,Tl hk2l,hm];rfl
 rcases so' with ⟨h,_,_⟩ | ⟨cb,cc,sp,hcc,hsp,rfl,rfl⟩
 ·exact absurd (congrArg List.length h) (by rw[Tr,Ug];omega)
 have hmm:m < (out2.map eCl).length:=by rw[Tr];exact hml
 have hrow:0 + m * 6 + 6≤((out2.map eCl).flatten ++ sp).length:=by
  rw[Tn,BT DS,Tr];omega
 refine Bk hkN (jl hcell (Bk hmm (jla (l:=eCl (out2[m])) hrow (by rw[Tw,Er m hmm DS,V0]) (ja λxb=>jS (eCl (out2[m])) ?_))));refine jS ([I (out2[m]).thread,I (out2[m]).next,I (out2[m]).from_,I i,I (out2[m]).ans,I (out2[m]).code]) ?_;refine TQ ok3 h1' (f:=2) (c:=I (S2.ev[S.ev.length]).ans) rfl (jS ([I (out2[m]).thread,I (out2[m]).next,I (out2[m]).from_,I i,I (S2.ev[S.ev.length]).ans,I (out2[m]).code]) ?_);refine TQ ok3 h1' (f:=3) (c:=I (S2.ev[S.ev.length]).code) rfl (jS (eCl ⟨(out2[m]).thread,(out2[m]).next,(out2[m]).from_,i,(S2.ev[S.ev.length]).ans,(S2.ev[S.ev.length]).code⟩) ?_);refine Bk hkN (jl hcell (jla (l:=eCl ⟨(out2[m]).thread,(out2[m]).next,(out2[m]).from_,i,(S2.ev[S.ev.length]).ans,(S2.ev[S.ev.length]).code⟩) (UD rfl) rfl (Bk hmm ?_)));refine js (cs':=((out2.set m ⟨(out2[m]).thread,(out2[m]).next,(out2[m]).from_,i,(S2.ev[S.ev.length]).ans,(S2.ev[S.ev.length]).code⟩).map eCl).flatten ++ sp) rfl rfl hrow (by rw[Tw,VD];exact Fe (w:=6) rfl m hmm DS) (Bk hkN (jsi hk2l (CN ?_)));refine hK5 _ _ _ ⟨⟨i,S2,g3,_,op2.set k (-1),S0 cb out2.length cc,_⟩,⟨hR.trans hR3,rfl,ok3,.inr ⟨cb,cc,sp,?_,?_,?_,rfl⟩,hfin,rfl⟩,rfl,?_⟩
 ·rw[Tr] at hcc;rw[Tr,U3];exact hcc
 ·rw[Tr] at hsp;rw[Tr,U3];exact hsp
 ·rw[Tr,U3]
 ·rw[Tr]
end Go.Lf
end
section
namespace Sm
def hA (N:Nat) (AE:List (List Op)) (next busy:List Int) (x:Cl):Bool:=
 decide (x.thread < 0) || decide (x.thread≥N) || (x.next != next.getD x.thread.toNat 0) || decide (x.next≥((AE.getD x.thread.toNat []).length:Int)) || decide (busy.getD x.thread.toNat 0 < 0)
def hP (pf:Option Int) (x:Cl):Bool:=match pf with
 | none=>false
 | some f=>decide (f≥x.from_)
def hB (busy:List Int) (pf:Option Int) (x:Cl):Bool:=
 decide (x.from_ < busy.getD x.thread.toNat 0) || hP pf x || (decide (x.to_≥0) && decide (x.to_ < x.from_)) || decide (x.to_ < -1)
def hC (x:Cl):Bool:=decide (x.to_ < 0) && (x.ans != 0 || x.code != 0)
def DH (N:Nat) (AE:List (List Op)):List Cl→List Int→List Int→Option Int→Bool
 | [],_,_,_=>true
 | x :: l,next,busy,pf=>!(hA N AE next busy x || hB busy pf x || hC x) && DH N AE l (next.set x.thread.toNat (x.next + 1)) (busy.set x.thread.toNat (if x.to_≥0 then x.to_ + 1 else x.to_)) (some x.from_)
def EI (N:Nat) (AE:List (List Op)) (l:List Cl):Bool:=DH N AE l (List.replicate N 0) (List.replicate N 0) none
theorem G5 {N:Nat} {AE:List (List Op)}:∀{l:List Cl} {next busy:List Int} {pf:Option Int} (k:Nat),DH N AE l next busy pf = true→DH N AE (l.take k) next busy pf = true
 | [],_,_,_,k,h=>by rw[List.take_nil];exact h
 | x :: l,next,busy,pf,0,h=>rfl
 | x :: l,next,busy,pf,k + 1,h=>by
  unfold DH at h ⊢;rw[z_b] at h;rw[List.take_succ_cons];show (_ && _) = true;rw[z_b];exact⟨h.1,G5 k h.2⟩
def Ci (busy:List Int):List Int:=busy.map λb=>if b < 0 then -1 else b - 1
def CL (busy:List Int):List Bool:=busy.map λb=>decide (b < 0)
def gA (N:Nat) (AE:List (List Op)) (next last:List Int) (ended:List Bool) (pf:Option Int) (x:Cl):Bool:=
 decide (x.thread < 0) || decide (x.thread≥N) || decide (x.from_ < 0) || hP pf x || (x.next != next.getD x.thread.toNat 0) || decide (x.next≥((AE.getD x.thread.toNat []).length:Int)) || ended.getD x.thread.toNat false || decide (x.from_≤last.getD x.thread.toNat 0)
def gB (x:Cl):Bool:=if x.to_ = -1 then (x.ans != 0 || x.code != 0) else decide (x.to_ < x.from_)
theorem Ls {N:Nat} {AE:List (List Op)} {next busy:List Int} {pf:Option Int} {x:Cl} (hb:busy.length = N) :
  (hA N AE next busy x || hB busy pf x || hC x) = (gA N AE next (Ci busy) (CL busy) pf x || gB x):=by
 by_cases h:0≤x.thread∧x.thread < N
 ·obtain⟨k,hk⟩:∃k:Nat,x.thread = k:=⟨x.thread.toNat,ω⟩;have hkl:k < busy.length:=ω
  have e1:(Ci busy).getD k 0 = if busy[k] < 0 then -1 else busy[k] - 1:=by
   unfold Ci;rw[C7 (by rw[Tr];exact hkl),V0]
  have e2:(CL busy).getD k false = decide (busy[k] < 0):=by
   unfold CL;rw[C7 (by rw[Tr];exact hkl),V0]
  unfold hA hB hC gA gB;rw[hk,Tj,e1,e2,C7 hkl];generalize (x.next != next.getD k 0) = q1;generalize decide (x.next≥((AE.getD k []).length:Int)) = q2;generalize hP pf x = q3;generalize (x.ans != 0 || x.code != 0) = q4;generalize busy[k] = b;rw[show decide ((k:Int) < 0) = false from decide_eq_false ω,show decide ((k:Int)≥N) = false from decide_eq_false ω];cases q1<;>cases q2<;>cases q3<;>simp only[VH,Bool.or_true,Uh,Bool.or_false];by_cases c1:b < 0
  ·simp[c1]
  ·have d1:decide (b < 0) = false:=decide_eq_false c1;rw[d1,if_neg c1];by_cases c2:x.to_ = -1
   ·rw[if_pos c2,c2];cases q4<;>rw[Ul]<;>simp<;>omega
   ·rw[if_neg c2];cases q4<;>rw[Ul]<;>simp<;>omega
 ·have:(decide (x.thread < 0) || decide (x.thread≥N)) = true:=by
   rw[U8,z_d,z_d];omega
  unfold hA gA;rw[this];simp only[VH]
end Sm
end
section
namespace Go.Lf
open Go Sm
def Cls (R:RM) (v:Value) (l:List Cl):Prop:=Fz R v 6 l.length (l.map eCl).flatten
section
variable {R:RM} {D:Chs} {k:Value→M}
theorem jcl {v:Value} {l:List Cl} {i:Nat} (h:Cls R v l) (hi:i < l.length)
  (H:∀b o t cs,R b = some (C t cs)→o + 6≤cs.length→(cs.drop o).take 6 = eCl (l[i])→J R D (k (.pointer (some ⟨b,o,none⟩)))):J R D (IA 6 v (I (i:Int)) k):=by
 unfold Cls at h;rw[← Tr (f:=eCl)] at h;obtain⟨b,o,cap,t,cs,rfl,hb,hl,hc⟩:=Hy h DS (by rw[Tr];exact hi);refine Bk (by rw[Tr];exact hi) (H b (o + i * 6) t cs hb hl ?_);rw[hc,V0]
theorem jpl {v:Value} {l:List (List Sm.Op)} {i:Nat} {m:Value→M} (h:Cy R v l) (hi:i < l.length) (H:J R D (m (I ((l[i]).length)))):J R D (IA 1 v (I (i:Int)) λx=>L1 x λy=>LN y m):=by
 obtain⟨vs,hf,hv,ho⟩:=h;obtain⟨x,hx,hox⟩:=ho i hi;rcases hf with ⟨_,h2,_⟩ | ⟨b,o,cap,t,cs,rfl,h2,h3,h4,h5⟩
 ·omega
 refine Bk hi (jlr h2 (v:=x) ?_ (Ep hox H));have:=congrArg (λl=>l[i]?) h4;simp only[Ub,UX] at this;rw[if_pos ω] at this;rw[UY,this,hx]
theorem jri {b i n c:Nat} {l:List Int} {sp:List Value} (hi:i < l.length) (hn:n = l.length) [a:At D b (C AZ (l.map I ++ sp))] (H:J R D (k (I (l.getD i 0)))):J R D (IA 1 (S0 b n c) (I (i:Int)) λx=>L1 x k):=by
 refine Bk ω (jl ?_ H);rw[Tw,UY,Um (by rw[Tr];exact hi),Uv,Tl hi,Sm.C7 hi];rfl
theorem jwi {b i n c:Nat} {x:Int} {l:List Int} {sp:List Value} {D' : Chs} {m:M} (hi:i < l.length) (hn:n = l.length) [a:At D b (C AZ (l.map I ++ sp))] [u:Up D b (C AZ (l.map I ++ sp)) (C AZ ((l.set i x).map I ++ sp)) D'] (H:J R D' m):J R D (IA 1 (S0 b n c) (I (i:Int)) λp=>ST 1 p (I x) m):=
 Bk ω (jsi hi H)
end
def Jz (l:List Cl):Prop:=∀x∈l,-1000000≤x.next∧-1000000≤x.to_∧x.to_≤1000000
theorem Pa {R:RM} {r N:Nat} {rs:Int} {pv cv:Value} {AE:List (List Sm.Op)} {l:List Cl} (hp:Cy R pv AE) (hc:Cls R cv l) (hok:BH ⟨r,N,rs⟩ AE [] = true) (hr:Jz l) (hl:l.length≤1000000) :
  Fn P Hn [.agg #[I r,I N,I rs],pv,cv] R [] (λv R' A=>R' = R∧A = []∧v = .bool (EI N AE l)):=by
 refine MN λF=>?_
 refine z_3 ?_;have hN:N≤3∧AE.length = N:=by
  have h:=hok;unfold BH Az at h;simp only[z_b,z_d] at h;omega
 have hp40:∀j,(AE.getD j []).length≤40:=by
  intro j;have h:=hok;unfold BH at h;simp only[z_b,UB,z_d] at h;rw[Ty];cases hq:AE[j]? with
  | none=>exact VG _
  | some y=>exact h.2 y (List.mem_of_getElem? hq)
 refine ja λb1=>(jla (l:=[I r,I N,I rs]) (UD rfl) rfl (jro (JF (c0:=⟨r,N,rs⟩) (picks:=[]) hp (.inl ⟨rfl,rfl,rfl⟩)) ?_))
 rw[hok];refine DM (jl (v:=I N) rfl (jms ω ω ω λnb=>(jl (v:=I N) rfl (jms ω ω ω λub=>?_))));rw[Tj,show (List.replicate N (cl z3)).flatten = (List.replicate N (0:Int)).map I ++ [] from by rw[show cl z3 = [I 0] from rfl];simp[US]];refine jli (λx:Nat × List Int × List Int=>l.length - x.1) (λx=>[pv,cv,Pt b1,S0 nb N N,S0 ub N N,I x.1])
  (λx=>(ub,C AZ (x.2.2.map I ++ [])) :: (nb,C AZ (x.2.1.map I ++ [])) :: (b1,C 24 [I r,I N,I rs]) :: F)
  (λR' x=>R = R'∧x.1≤l.length∧x.2.1.length = N∧x.2.2.length = N∧DH N AE (l.drop x.1) x.2.1 x.2.2 (if h:0 < x.1∧x.1≤l.length then some (l[x.1 - 1]'(ω)).from_ else none) = EI N AE l)
  (0,List.replicate N 0,List.replicate N 0) ⟨rfl,VG _,σ,σ,by rw[dif_neg σ];rfl⟩ rfl rfl ?_
 rintro K e _ ⟨i,next,busy⟩ ⟨rfl,hi,hn,hb,hh⟩ he hK;dsimp only at hi hn hb hh he ⊢;refine z_V ?_;refine Ep hc (jlt (jif (λh=>?_) (λh=>?_)));rotate_left
 ·have h:=z_g h;rw[Tx ω] at hh;exact BC (RM.le.refl R) ⟨rfl,rfl,by rw[← hh];rfl⟩
 have h:i < l.length:=by have:=z_f h;omega
 rw[Ts h] at hh;unfold DH at hh;generalize hpf:(if h:0 < i∧i≤l.length then some (l[i - 1]'(ω)).from_ else none:Option Int) = pf at hh;have hx:=hr _ (U6 h);generalize hxe:l[i] = x at hh hx;obtain⟨th,nx,fr,tto,an,co⟩:=x;dsimp only at hh hx;refine jci (λy:List Int × List Int=>[pv,cv,Pt b1,S0 nb N N,S0 ub N N,I i])
  (λy=>(ub,C AZ (y.2.map I ++ [])) :: (nb,C AZ (y.1.map I ++ [])) :: (b1,C 24 [I r,I N,I rs]) :: F)
  (λR' y=>R = R'∧y.1.length = N∧y.2.length = N∧DH N AE (l.drop (i + 1)) y.1 y.2 (some fr) = EI N AE l) (λK2 hK2=>?_) ?_
 rotate_left
 ·rintro e _ ⟨next2,busy2⟩ ⟨rfl,hn2,hb2,hh2⟩ he;dsimp only at hn2 hb2 hh2 he ⊢;refine z_V ?_;refine jad (hK _ (i + 1,next2,busy2) (by dsimp only;omega) ⟨rfl,by dsimp only;omega,hn2,hb2,?_⟩);dsimp only;rw[dif_pos ⟨ω,ω⟩,← hh2];simp only[Uz,hxe]
 refine jiI hK2 λK3 hK3=>?_
 refine jcl hc h λb o t cs hcb hco hcs=>(KL hcb hco (by rw[hcs,hxe]) (ja λxb=>jS [I th,I nx,I fr,I tto,I an,I co] ?_))
 refine jor [pv,cv,Pt b1,S0 nb N N,S0 ub N N,I i,Pt xb] (decide (th < 0) || decide (th≥N)) (λK' hK'=>(jl (v:=I th) rfl (jlt (jgO hK' λh1 hk=>(jl (v:=I th) rfl (jl (v:=I N) rfl (jge hk))))))) (λe c u ho he=>?_);refine z_V ?_;obtain⟨B1,hB1⟩:∃B1,B1 = (decide (th < 0) || decide (th≥N)):=⟨_,rfl⟩;rw[← hB1] at ho;have kk:B1 = false→∃k:Nat,th = k∧k < N:=by
  intro h1;rw[h1] at hB1;have:=hB1.symm;simp only[Tp,decide_eq_false_iff_not] at this;exact⟨th.toNat,ω,ω⟩
 refine jor [pv,cv,Pt b1,S0 nb N N,S0 ub N N,I i,Pt xb] (B1 || (nx != next.getD th.toNat 0)) (λK' hK'=>?_) (λe c u ho2 he=>?_)
 ·rw[ho];refine jgO hK' λh1 hk=>?_
  obtain⟨k,rfl,hkN⟩:=kk h1;exact jl (v:=I nx) rfl (jl (v:=I k) rfl (jri ω ω (jne hk)))
 refine z_V ?_;obtain⟨B2,hB2⟩:∃B2,B2 = (B1 || (nx != next.getD th.toNat 0)):=⟨_,rfl⟩;rw[← hB2] at ho2;have k2:B2 = false→B1 = false:=λh=>by rw[hB2,Tp] at h;exact h.1
 refine jor [pv,cv,Pt b1,S0 nb N N,S0 ub N N,I i,Pt xb] (B2 || decide (nx≥((AE.getD th.toNat []).length:Int))) (λK' hK'=>?_) (λe c u ho3 he=>?_)
 ·rw[ho2];refine jgO hK' λh1 hk=>?_
  obtain⟨k,rfl,hkN⟩:=kk (k2 h1);rw[Tj,Sm.C7 (l:=AE) (k:=k) ω] at hk;exact jl (v:=I nx) rfl (jl (v:=I k) rfl (jpl hp ω (jge hk)))
 refine z_V ?_;obtain⟨B3,hB3⟩:∃B3,B3 = (B2 || decide (nx≥((AE.getD th.toNat []).length:Int))):=⟨_,rfl⟩;rw[← hB3] at ho3;have k3:B3 = false→B2 = false:=λh=>by rw[hB3,Tp] at h;exact h.1
 refine jor [pv,cv,Pt b1,S0 nb N N,S0 ub N N,I i,Pt xb] (B3 || decide (busy.getD th.toNat 0 < 0)) (λK' hK'=>?_) (λe c u ho4 he=>?_)
 ·rw[ho3];refine jgO hK' λh1 hk=>?_
  obtain⟨k,rfl,hkN⟩:=kk (k2 (k3 h1));exact jl (v:=I k) rfl (jri ω ω (jlt hk))
 refine z_V ?_;rw[ho4];have eA:hA N AE next busy ⟨th,nx,fr,tto,an,co⟩ = (B3 || decide (busy.getD th.toNat 0 < 0)):=by rw[hB3,hB2,hB1];rfl
 rw[eA] at hh;refine jif (λh1=>?_) (λh1=>?_)
 ·rw[h1] at hh;exact BC (RM.le.refl R) ⟨rfl,rfl,by rw[← hh];rfl⟩
 rw[h1,Uh] at hh;have hnx:nx≤1000000:=by
  have c3:B3 = false:=by rw[Tp] at h1;exact h1.1
  rw[hB3,Tp] at c3;have:=z_g c3.2;have:=hp40 th.toNat;omega
 obtain⟨k,rfl,hkN⟩:=kk (k2 (k3 (by rw[Tp] at h1;exact h1.1)));clear eA ho ho2 ho3 ho4 k2 k3 kk hB1 hB2 hB3 h1;refine jor [pv,cv,Pt b1,S0 nb N N,S0 ub N N,I i,Pt xb] (decide (fr < busy.getD (k:Int).toNat 0) || hP pf ⟨k,nx,fr,tto,an,co⟩) (λK' hK'=>?_) (λe c u ho he=>?_)
 ·refine jl (v:=I fr) rfl (jl (v:=I k) rfl (jri ω ω (jlt (jgO hK' λh1 hk=>(jgr ?_)))));by_cases hi0:i = 0
  ·rw[show decide ((i:Int) > 0) = false from decide_eq_false ω];have:pf = none:=by rw[← hpf,dif_neg ω]
   rw[this] at hk;exact hk
  ·rw[show decide ((i:Int) > 0) = true from decide_eq_true ω];have:pf = some (l[i - 1]'(ω)).from_:=by rw[← hpf,dif_pos ⟨ω,ω⟩]
   rw[this] at hk;refine jgt (λ_=>?_) (λh=>by cases h);refine Iw (x:=i) (y:=1) ⟨ω,ω⟩ ?_;rw[show (i:Int) - 1 = ((i - 1:Nat):Int) from ω];exact jcl hc (i:=i - 1) ω λb o t cs hcb hco hcs=>(jlr hcb (Bo hcs rfl) (jl (v:=I fr) rfl (jge hk)))
 refine z_V ?_;obtain⟨B1,hB1⟩:∃B1,B1 = (decide (fr < busy.getD (k:Int).toNat 0) || hP pf ⟨k,nx,fr,tto,an,co⟩):=⟨_,rfl⟩;rw[← hB1] at ho;refine jor [pv,cv,Pt b1,S0 nb N N,S0 ub N N,I i,Pt xb] (B1 || (decide (tto≥0) && decide (tto < fr))) (λK' hK'=>?_) (λe c u ho2 he=>?_)
 ·rw[ho];refine jgO hK' λh1 hk=>(jl (v:=I tto) rfl (jge ?_))
  cases hq:decide (tto≥0) with
  | false=>rw[hq] at hk;exact hk
  | true=>rw[hq] at hk;exact jl (v:=I tto) rfl (jl (v:=I fr) rfl (jlt hk))
 refine z_V ?_;obtain⟨B2,hB2⟩:∃B2,B2 = (B1 || (decide (tto≥0) && decide (tto < fr))):=⟨_,rfl⟩;rw[← hB2] at ho2;refine jor [pv,cv,Pt b1,S0 nb N N,S0 ub N N,I i,Pt xb] (B2 || decide (tto < -1)) (λK' hK'=>?_) (λe c u ho3 he=>?_)
 ·rw[ho2];exact jgO hK' λh1 hk=>(jl (v:=I tto) rfl (jlt hk))
 refine z_V ?_;rw[ho3];have eB:hB busy pf ⟨k,nx,fr,tto,an,co⟩ = (B2 || decide (tto < -1)):=by rw[hB2,hB1];rfl
 rw[eB] at hh;refine jif (λh1=>?_) (λh1=>?_)
 ·rw[h1] at hh;exact BC (RM.le.refl R) ⟨rfl,rfl,by rw[← hh];rfl⟩
 rw[h1,Uh] at hh;clear eB ho ho2 ho3 hB1 hB2 h1;refine jan [pv,cv,Pt b1,S0 nb N N,S0 ub N N,I i,Pt xb] (hC ⟨k,nx,fr,tto,an,co⟩) (λK' hK'=>?_) (λe c u ho he=>?_)
 ·refine jl (v:=I tto) rfl (jlt (jgA (new:=(an != 0 || co != 0)) hK' λh1 hk=>(jl (v:=I an) rfl (jne ?_))));cases hq:(an != 0) with
  | true=>rw[hq] at hk;exact hk
  | false=>rw[hq] at hk;exact jl (v:=I co) rfl (jne hk)
 refine z_V ?_;rw[ho];refine jif (λh1=>?_) (λh1=>?_)
 ·rw[h1] at hh;exact BC (RM.le.refl R) ⟨rfl,rfl,by rw[← hh];rfl⟩
 rw[h1,VF,UT] at hh;refine jl (v:=I k) rfl (jl (v:=I nx) rfl (jad (jwi ω ω (jl (v:=I k) rfl (jl (v:=I tto) rfl (jwi ω ω (jl (v:=I tto) rfl (jge (jif (λh2=>?_) (λh2=>?_))))))))))
 ·have h2:=z_f h2;rw[if_pos h2] at hh;refine jl (v:=I k) rfl (jl (v:=I tto) rfl (jad (jwi (by rw[U3];omega) (by rw[U3];omega) (CN (hK3 _ (next.set k (nx + 1),(busy.set k tto).set k (tto + 1)) ⟨rfl,by rw[U3];exact hn,by rw[U3,U3];exact hb,?_⟩)))));rw[List.set_set];exact hh
 ·have h2:=z_g h2;rw[if_neg h2] at hh;exact CN (hK3 _ (next.set k (nx + 1),busy.set k tto) ⟨rfl,by rw[U3];exact hn,by rw[U3];exact hb,hh⟩)
end Go.Lf
end
section
namespace Sm
open Go.Lf
theorem HpF.tp {s:Ah} {l:List AV} {met:List Int} (hf:HpF s l met):∀t∈l,∃k:Nat,∃h:k < s.A0.length,AQ t.at_ = k∧t.at_ + AC t.sh≤(s.A0[k]).top:=by
 intro t ht;have h1:=hf.ths;unfold OL at h1;split at h1;rotate_left
 ·cases h1
 unfold BP at h1;obtain⟨g1,g2,g3,k,hk,g4,g5,g6⟩:=(HH h1).2 t ht;rw[V7] at hk;refine⟨k + 1,ω,?_,?_⟩
 ·unfold AQ;rw[if_neg ω];omega
 ·rw[List.getElem_tail] at g5;exact g5
end Sm
namespace Go.Lf
open Go Sm
end Go.Lf
end
