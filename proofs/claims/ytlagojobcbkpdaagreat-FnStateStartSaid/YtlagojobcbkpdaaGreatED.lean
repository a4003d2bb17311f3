/- A part of the proof of the given row: the walk of the law and of all that it calls. Conditions: none. -/
import Derived.Test.YtlagojobcbkpdaaGreatEC
set_option linter.unusedVariables false
set_option linter.unusedSimpArgs false
set_option maxRecDepth 100000
section
namespace Sm
variable {P:List (List Op)}
structure Bs (x:X) (o:Op) (t:Thr) (pc:Int):Prop where
 p:1≤pc∧pc≤16∧pc≠13
 k:2≤o.kind∧o.kind≤11∧o.kind≠8∧o.kind≠9
 h:t.h≠0→x.L t.h
 g:t.g≠0→x.L t.g
 kk:t.k≠0→x.L t.k
 h0:o.kind≠6→t.h≠0
 nh:2≤pc→¬ BR x.t t.h
 ng:3≤pc→¬ BR x.t t.g
 nk:4≤pc→¬ BR x.t t.k
 s:5≤pc→t.sh = shp x.w t.h∧t.h≠0
 f:5≤pc→0≤o.f∧(o.kind = 4∨o.kind = 5→o.f < t.sh.nums)∧(o.kind≠4→o.kind≠5→o.f < t.sh.refs)
 k5:pc = 5∨pc = 11∨pc = 12→o.kind = 2
 k6:pc = 6∨pc = 7→o.kind = 3
 k8:pc = 8→o.kind = 4
 k9:pc = 9→o.kind = 5
 k10:pc = 10∨pc = 14∨pc = 15∨pc = 16→o.kind = 7
 l7:pc = 7→x.ph = 1→t.h < x.tm t.h→Lg x (x.q (t.h + 2 + o.f))
 l14:pc = 14→x.ph = 1→Lg x t.u
 v:11≤pc→pc≠14→t.v≠0→x.L t.v
 nv:pc = 12∨pc = 16→¬ BR x.t t.v
 p15:pc = 15∨pc = 16→x.ph≠1
structure Cp (x:X) (o src dst size i word pc:Int):Prop where
 p:20≤pc∧pc≤24
 ls:x.L src
 fs:BR x.t src
 p2:x.ph = 2
 sz:21≤pc→size = sz x.w src
 ow:21≤pc→Ow x o dst size
 i0:21≤pc→1≤i∧i≤size
 i1:pc = 21∨pc = 22→i < size
 cp:21≤pc→∀j,1≤j→j < i→wv x.w (dst + j) = wv x.w (src + j)
 wd:pc = 22→word = wv x.w (src + i)
 dn:23≤pc→i = size
 hd:pc = 24→wv x.w dst = dst
structure Mg (x:X) (o:Int) (op:Op) (t:Thr):Prop where
 p:30≤t.pc∧t.pc≤33
 k:op.kind = 1
 sh:Ad op.sh = true
 sz:31≤t.pc→t.size = AA op.sh
 ow:31≤t.pc→Ow x o t.dst t.size
 i2:31≤t.pc→t.pc≤32→t.i = 2
 i3:t.pc = 33→2≤t.i∧t.i < t.size
 hd:32≤t.pc→wv x.w t.dst = t.dst
 sp:33≤t.pc→wv x.w (t.dst + 1) = Au op.sh
 z:33≤t.pc→∀j,2≤j→j < t.i→wv x.w (t.dst + j) = 0
def IC (r:Int):Prop:=r = 1∨r = 2∨r = 3∨r = 11∨r = 15
inductive Run (x:X) (i:Int) (o:Op) (t:Thr):Prop
 | bs (h:Bs x o t t.pc)
 | cp (h:Bs x o t t.ret) (r:IC t.ret) (e:Gm t t.ret = t.src) (c:Cp x i t.src t.dst t.size t.i t.word t.pc)
 | mg (h:Mg x i o t)
structure TI (x:X) (i:Int) (po:Option Op) (t:Thr):Prop where
 rt:∀a∈t.AD,a≠0→x.L a
 rl:t.AD.length≤8
 nx:0≤t.next
 r8:∀o,po = some o→t.pc≠0→o.kind = 1∨o.kind = 2→t.AD.length < 8
 run:(t.pc = 0∧t.g = 0∧t.k = 0)∨∃o,po = some o∧Run x i o t
theorem Kp.shp {o:Int} {x y:X} (K:Kp o x y) {a:Int} (h:x.B a):shp y.w a = shp x.w a:=Cf (K.sh a h)
theorem Kp.sz {o:Int} {x y:X} (K:Kp o x y) {a:Int} (h:x.B a):sz y.w a = sz x.w a:=Hd (K.sh a h)
theorem Kp.tma {o:Int} {x y:X} (K:Kp o x y) {a:Int} (h:0≤a):y.tm a = x.tm a:=K.tm (a / 16) ω
theorem Bs.stable {p:Int} {x y:X} {o:Op} {t:Thr} {pc:Int} (H:Sh x) (K:Kp p x y) (b:Bs x o t pc):Bs y o t pc:=by
 refine⟨b.p,b.k,λh=>K.l _ (b.h h),λh=>K.l _ (b.g h),λh=>K.l _ (b.kk h),b.h0,λh c=>b.nh h (K.frm.1 c),λh c=>b.ng h (K.frm.1 c),λh c=>b.nk h (K.frm.1 c),λh=>?_,b.f,b.k5,b.k6,b.k8,b.k9,b.k10,λh hp ht=>?_,λh hp=>?_,λh h' h0=>K.l _ (b.v h h' h0),λh c=>b.nv h (K.frm.1 c),λh=>by rw[K.ph];exact b.p15 h⟩
 ·obtain⟨h1,h2⟩:=b.s h;exact⟨by rw[K.shp (H.lb _ (b.h h2))];exact h1,h2⟩
 ·have hp' : x.ph = 1:=by rw[← K.ph];exact hp
  have h2:=(b.s ω).2;have hL:=b.h h2;rw[K.tma (by have:=H.g.inn (H.lb _ hL);omega)] at ht;rw[K.q];exact K.lg hp' _ (b.l7 h hp' ht)
 ·have hp' : x.ph = 1:=by rw[← K.ph];exact hp
  exact K.lg hp' _ (b.l14 h hp')
theorem Cp.stable {p o:Int} {x y:X} {src dst size i word pc:Int} (H:Sh x) (K:Kp p x y) (hp:p≠o) (c:Cp x o src dst size i word pc):Cp y o src dst size i word pc:=by
 refine⟨c.p,K.l _ c.ls,K.frm.2 c.fs,by rw[K.ph];exact c.p2,λh=>by rw[K.sz (H.lb _ c.ls)];exact c.sz h,λh=>((c.ow h).stable K hp).1,c.i0,c.i1,λh j j0 j1=>?_,λh=>?_,c.dn,λh=>?_⟩
 ·have h1:=c.i0 h;rw[((c.ow h).stable K hp).2 (dst + j) ω ω,K.bd src (src + j) c.ls c.fs ω (by have:=c.sz h;omega)];exact c.cp h j j0 j1
 ·have h1:=c.i0 ω;have h2:=c.i1 (.inr h);rw[K.bd src (src + i) c.ls c.fs ω (by have:=c.sz ω;omega)];exact c.wd h
 ·have h1:=c.i0 ω;rw[((c.ow ω).stable K hp).2 dst ω ω];exact c.hd h
theorem Mg.stable {p o:Int} {x y:X} {op:Op} {t:Thr} (K:Kp p x y) (hp:p≠o) (c:Mg x o op t):Mg y o op t:=by
 have h2:31≤t.pc→2≤t.size:=λh=>by
  rw[c.sz h];have:=c.sh;rw[Kj (by simpa [Ad,and_assoc] using this)];simp only[Ad,z_b,z_d] at this;omega
 refine⟨c.p,c.k,c.sh,c.sz,λh=>((c.ow h).stable K hp).1,c.i2,c.i3,λh=>?_,λh=>?_,λh j j0 j1=>?_⟩
 ·rw[((c.ow ω).stable K hp).2 t.dst ω (by have:=h2 ω;omega)];exact c.hd h
 ·rw[((c.ow ω).stable K hp).2 (t.dst + 1) ω (by have:=h2 ω;omega)];exact c.sp h
 ·have:=c.i3 (by have:=c.p;omega);rw[((c.ow ω).stable K hp).2 (t.dst + j) ω ω];exact c.z h j j0 j1
theorem TI.stable {p i:Int} {x y:X} {po:Option Op} {t:Thr} (H:Sh x) (K:Kp p x y) (hp:p≠i) (T:TI x i po t):TI y i po t:=by
 refine⟨λa h h0=>K.l a (T.rt a h h0),T.rl,T.nx,T.r8,?_⟩;rcases T.run with h | ⟨o,h,r⟩
 ·exact .inl h
 ·refine .inr ⟨o,h,?_⟩;cases r with
  | bs b=>exact .bs (b.stable H K)
  | cp b r e c=>exact .cp (b.stable H K) r e (c.stable H K hp)
  | mg m=>exact .mg (m.stable K hp)
structure C1 (x:X) (c:Col):Prop where
 pc:c.pc = 1∨c.pc = 2
 p2:c.pc = 2→mv x.m c.p = true∧0≤c.p∧c.sh = shp x.w c.p∧0≤c.i∧c.i < c.sh.refs
 sc:∀a j,0≤a→mv x.m a = true→0≤j→j < (shp x.w a).refs→(c.pc = 2∧a = c.p∧c.i≤j)∨Lg x (x.q (a + 2 + j))
structure C2 (x:X) (n:Int) (c:Col):Prop where
 r0:1≤c.r
 r1:c.r≤x.t.length
 p0:16 * c.r≤c.p
 p1:c.p≤16 * c.r + 16
 wk:∀a,x.L a→BR x.t a→a < c.p→wv x.w a≠a∨(c.pc≠5∧a = c.src)
 pc:c.pc = 5∨Cp x n c.src c.dst c.size c.i c.word c.pc
def lim (x:X) (r:Int):Int:=16 * r + (rv x.t r).AQ
structure C3 (x:X) (c:Col):Prop where
 pc:6≤c.pc∧c.pc≤9
 r0:1≤c.r
 r1:c.r≤x.t.length
 p0:16 * c.r≤c.p
 at_:c.r < x.t.length→c.p < lim x c.r→x.B c.p
 f:7≤c.pc→x.L c.f∧¬ BR x.t c.f∧c.sh = shp x.w c.f∧0≤c.i∧c.i < c.sh.refs∧c.f < c.p
 v:8≤c.pc→x.L c.v∧BR x.t c.v
 w:c.pc = 9→c.word = wv x.w c.v
 u:8≤c.pc→BR x.t (wv x.w (c.f + 2 + c.i))→wv x.w (c.f + 2 + c.i) = c.v
 cl:∀a j,x.L a→¬ BR x.t a→0≤j→j < (shp x.w a).refs→BR x.t (wv x.w (a + 2 + j))→(c.p≤a∧a < lim x (a / 16))∨(7≤c.pc∧a = c.f∧c.i≤j)
def Wt (x:X) (want:Int):Prop:=(x.ph = 0∧want = 1)∨(x.ph = 1∧want = 2)∨(x.ph = 2∧want = 3∧∀a,x.L a→BR x.t a→wv x.w a≠a)∨
 (x.ph = 3∧want = 0∧∀a j,x.L a→¬ BR x.t a→0≤j→j < (shp x.w a).refs→¬ BR x.t (wv x.w (a + 2 + j)))
theorem C1.stable {p:Int} {x y:X} {c:Col} (H:Sh x) (K:Kp p x y) (hm:y.m = x.m) (h1:x.ph = 1) (C:C1 x c):C1 y c:=by
 have hb:∀a,0≤a→mv x.m a = true→shp y.w a = shp x.w a:=λa a0 h=>K.shp (H.lb _ (H.mt a a0 h).1)
 refine⟨C.pc,λh=>?_,λa j a0 h j0 j1=>?_⟩
 ·obtain⟨h2,h3,h4,h5⟩:=C.p2 h;exact⟨by rw[hm];exact h2,h3,by rw[hb _ h3 h2];exact h4,h5⟩
 ·rw[hm] at h;rw[hb a a0 h] at j1;rcases C.sc a j a0 h j0 j1 with d | d
  ·exact .inl d
  ·rw[K.q];exact .inr (K.lg h1 _ d)
theorem C2.stable {p n:Int} {x y:X} {c:Col} (H:Sh x) (K:Kp p x y) (hp:p≠n) (C:C2 x n c):C2 y n c:=by
 refine⟨C.r0,by rw[K.tl];exact C.r1,C.p0,C.p1,λa h hf hl=>?_,C.pc.imp id λd=>d.stable H K hp⟩;have hL:=K.lf a h hf;rcases C.wk a hL (K.frm.1 hf) hl with d | d
 ·left;rw[K.fwd a (H.lb _ hL) d];exact d
 ·exact .inr d
theorem C3.stable {p:Int} {x y:X} {c:Col} (H:Sh x) (K:Kp p x y) (hl:∀r:Int,0≤r→(rv y.t r).AQ = (rv x.t r).AQ) (h3:x.ph = 3) (C:C3 x c):C3 y c:=by
 have el:∀r,0≤r→lim y r = lim x r:=λr r0=>by unfold lim;rw[hl r r0]
 refine⟨C.pc,C.r0,by rw[K.tl];exact C.r1,C.p0,λh h'=>K.b _ (C.at_ (by rw[← K.tl];exact h) (by rw[el _ (by have:=C.r0;omega)] at h';exact h')),λh=>?_,λh=>?_,λh=>?_,λh hf=>?_,λa j h hn j0 j1 hf=>?_⟩
 ·obtain⟨f1,f2,f3,f4⟩:=C.f h;exact⟨K.l _ f1,λc=>f2 (K.frm.1 c),by rw[K.shp (H.lb _ f1)];exact f3,f4⟩
 ·exact⟨K.l _ (C.v h).1,K.frm.2 (C.v h).2⟩
 ·obtain⟨v1,v2⟩:=C.v ω;rw[K.fwd _ (H.lb _ v1) (H.af h3 _ v1 v2)];exact C.w h
 ·obtain⟨f1,f2,f3,f4,f5,_⟩:=C.f ω;obtain⟨_,g2⟩:=K.cl h3 c.f c.i (K.l _ f1) (λc=>f2 (K.frm.1 c)) f4 (by rw[K.shp (H.lb _ f1),← f3];exact f5) hf;rw[← g2] at hf ⊢;exact C.u h (K.frm.1 hf)
 ·obtain⟨g1,g2⟩:=K.cl h3 a j h hn j0 j1 hf;rw[K.shp (H.lb _ g1)] at j1;rw[← g2] at hf;rw[el _ (by have:=H.g.inn (H.lb _ g1);omega)];exact C.cl a j g1 (λc=>hn (K.frm.2 c)) j0 j1 (K.frm.1 hf)
theorem Wt.stable {p want:Int} {x y:X} (H:Sh x) (K:Kp p x y) (W:Wt x want):Wt y want:=by
 rcases W with ⟨h,h'⟩ | ⟨h,h'⟩ | ⟨h,h',h2⟩ | ⟨h,h',h2⟩
 ·exact .inl ⟨by rw[K.ph];exact h,h'⟩
 ·exact .inr (.inl ⟨by rw[K.ph];exact h,h'⟩)
 ·refine .inr (.inr (.inl ⟨by rw[K.ph];exact h,h',λa ha hf=>?_⟩));have hL:=K.lf a ha hf;have:=h2 a hL (K.frm.1 hf);rw[K.fwd a (H.lb _ hL) this];exact this
 ·refine .inr (.inr (.inr ⟨by rw[K.ph];exact h,h',λa j ha hn j0 j1 hf=>?_⟩));obtain⟨g1,g2⟩:=K.cl h a j ha hn j0 j1 hf;rw[K.shp (H.lb _ g1)] at j1;rw[← g2] at hf;exact h2 a j g1 (λc=>hn (K.frm.2 c)) j0 j1 (K.frm.1 hf)
structure Gh where
 B:Int→Prop
 L:Int→Prop
 q:Int→Int
 r0:Int→Prop
@[reducible] def xof (S:Sim) (g:Gh):X:=⟨S.AE,S.AB,S.AS,S.Ay,S.col.C0,S.old,S.AN,g.B,g.L,g.q,g.r0⟩
structure Bd (c:Nat) (S:Sim):Prop where
 ev:S.ev.length≤c
 old:S.old.length≤c
 cy:0≤S.C4∧S.C4≤c
 fu:0≤S.Cl∧S.Cl≤c
 st:S.col.C0.length + S.old.length + 5 * S.AS.countP (λb=>!b) + (if S.col.pc = 2 then (S.col.sh.refs - S.col.i).toNat else 0)≤3000 + c
 pn:S.AN.length≤8
structure IG (P:List (List Op)) (S:Sim) (g:Gh):Prop where
 pg:S.Bi = P
 sh:Sh (xof S g)
 n0:1≤S.th.length
 n1:S.th.length≤3
 pl:S.Bi.length = S.th.length
 pp:∀p∈S.Bi,p.length≤40
 ti:∀i t,idx S.th i = some t→TI (xof S g) i (S.opOf i t) t
 c1:S.Ay = 1→C1 (xof S g) S.col
 c2:S.Ay = 2→C2 (xof S g) S.th.length S.col
 c3:S.Ay = 3→C3 (xof S g) S.col
 wt:S.stop = true→S.full = false→Wt (xof S g) S.col.want
 rs:0≤S.c.AH∧S.c.AH≤100
theorem OS {α:Type} {l:List α} {i j:Int} {v u:α} (h:idx (Ak l i v) j = some u) (hi:0≤i):(j = i∧u = v)∨(j≠i∧idx l j = some u):=by
 unfold idx Ak at h;split at h
 ·rw[TP] at h;split at h
  ·split at h
   ·left;exact⟨ω,by simpa using h.symm⟩
   ·cases h
  ·right;refine⟨λc=>by subst c;simp at *,?_⟩;unfold idx;rw[if_pos (by assumption)];exact h
 ·cases h
theorem IG.step {S S' : Sim} {g g' : Gh} {i:Int} {t t' : Thr} (I:IG P S g) (ht:idx S.th i = some t) (hth:S'.th = Ak S.th i t') (hsh:Sh (xof S' g')) (K:Kp i (xof S g) (xof S' g')) (hc:S'.col = S.col) (hm:S'.AS = S.AS)
  (hlv:∀r:Int,0≤r→(rv S'.AB r).AQ = (rv S.AB r).AQ) (hpc:(S'.Bi,S'.c) = (S.Bi,S.c)) (hT:TI (xof S' g') i (S'.opOf i t') t') (hst:S'.stop = true→S'.full = false→S.stop = true∧S.full = false):IG P S' g':=by
 have hpg:S'.Bi = S.Bi:=congrArg Prod.fst hpc;have hcc:S'.c = S.c:=congrArg Prod.snd hpc;obtain⟨i0,i1,_⟩:=MK t ht;have hph:S'.Ay = S.Ay:=K.ph;have hin:i≠S.th.length:=ω
 refine⟨by rw[hpg];exact I.pg,hsh,by rw[hth,Bz];exact I.n0,by rw[hth,Bz];exact I.n1,by rw[hth,Bz,hpg];exact I.pl,by rw[hpg];exact I.pp,λj u hu=>?_,λh=>?_,λh=>?_,λh=>?_,λh h'=>?_,by rw[hcc];exact I.rs⟩
 ·rw[hth] at hu;rcases OS hu i0 with ⟨rfl,rfl⟩ | ⟨hne,hu⟩
  ·exact hT
  ·have:S'.opOf j u = S.opOf j u:=by unfold Sim.opOf;rw[hpg]
   rw[this];exact (I.ti j u hu).stable I.sh K hne.symm
 ·rw[hc];rw[hph] at h;exact (I.c1 h).stable I.sh K hm h
 ·rw[hc,hth,Bz];rw[hph] at h;exact (I.c2 h).stable I.sh K hin
 ·rw[hc];rw[hph] at h;exact (I.c3 h).stable I.sh K hlv h
 ·rw[hc];obtain⟨h1,h2⟩:=hst h h';exact (I.wt h1 h2).stable I.sh K
end Sm
end
section
namespace Sm
variable {P:List (List Op)}
theorem Nn {α:Type} {l:List α} {t:α} (h:t∈l):∃i:Int,0≤i∧i < l.length∧idx l i = some t:=by
 obtain⟨n,hn,rfl⟩:=S5 h;refine⟨n,ω,ω,?_⟩;unfold idx;rw[if_pos ω];simp[hn]
theorem IG.AD {S:Sim} {g:Gh} (I:IG P S g):∀t∈S.th,t.AD.length≤8:=λt h=>by
 obtain⟨i,_,_,hi⟩:=Nn h;exact (I.ti i t hi).rl
theorem IG.next {S:Sim} {g:Gh} {i:Int} {t:Thr} {o:Op} (I:IG P S g) (ht:idx S.th i = some t) (ho:S.opOf i t = some o):0≤t.next∧t.next < 40:=by
 refine⟨(I.ti i t ht).nx,?_⟩;unfold Sim.opOf at ho;split at ho
 ·rename_i p hp;obtain⟨_,h1,_⟩:=MK default ho;have:p∈S.Bi:=by
   unfold idx at hp;split at hp
   ·exact List.mem_of_getElem? hp
   ·cases hp
  have:=I.pp p this;omega
 ·cases ho
structure Aa (S S1:Sim):Prop where
 th:S1.th = S.th
 col:S1.col = S.col
 AS:S1.AS = S.AS
 pc_:(S1.Bi,S1.c) = (S.Bi,S.c)
 stop:S1.stop = S.stop
 full:S1.full = S.full
 AQ:∀r:Int,0≤r→(rv S1.AB r).AQ = (rv S.AB r).AQ
theorem Aa.Bi {S S1:Sim} (E:Aa S S1):S1.Bi = S.Bi:=congrArg Prod.fst E.pc_
theorem Aa.refl (S:Sim):Aa S S:=⟨rfl,rfl,rfl,rfl,rfl,rfl,λ_ _=>rfl⟩
theorem Bd.mono {c d:Nat} {S:Sim} (B:Bd c S) (h:c≤d):Bd d S:=
 ⟨by have:=B.ev;omega,by have:=B.old;omega,⟨B.cy.1,by have:=B.cy.2;omega⟩,⟨B.fu.1,by have:=B.fu.2;omega⟩,by have:=B.st;omega,B.pn⟩
def Sim.evd (S:Sim) (i ans code:Int) (t:Thr) (AD:List Int):Sim:={ S with ev:=S.ev ++ [⟨i,t.next,ans,code⟩],th:=Ak S.th i (thr0 AD (t.next + 1) 0) }
theorem TI.upd {x y:X} {i:Int} {po:Option Op} {t t' : Thr} {o:Op} (T:TI x i po t) (K:Kp i x y) (hr:t'.AD = t.AD) (hn:t'.next = t.next) (hpc:t.pc≠0) (ho:po = some o) (R:Run y i o t'):TI y i po t':=
 ⟨λa h h0=>K.l a (T.rt a (hr▸h) h0),by rw[hr];exact T.rl,by rw[hn];exact T.nx,λo' h _ hk=>by rw[hr];exact T.r8 o' h hpc hk,.inr ⟨o,ho,R⟩⟩
theorem Bs.eqv {x:X} {o:Op} {t t' : Thr} {pc:Int} (b:Bs x o t pc) (h:t'.h = t.h) (g:t'.g = t.g) (k:t'.k = t.k) (u:t'.u = t.u) (v:t'.v = t.v) (s:t'.sh = t.sh):Bs x o t' pc:=by
 refine⟨b.p,b.k,?_,?_,?_,?_,?_,?_,?_,?_,?_,b.k5,b.k6,b.k8,b.k9,b.k10,?_,?_,?_,?_,b.p15⟩
 ·rw[h];exact b.h
 ·rw[g];exact b.g
 ·rw[k];exact b.kk
 ·rw[h];exact b.h0
 ·rw[h];exact b.nh
 ·rw[g];exact b.ng
 ·rw[k];exact b.nk
 ·rw[h,s];exact b.s
 ·rw[s];exact b.f
 ·rw[h];exact b.l7
 ·rw[u];exact b.l14
 ·rw[v];exact b.v
 ·rw[v];exact b.nv
theorem IC.le {r:Int} (h:IC r):1≤r∧r≤15:=by rcases h with rfl | rfl | rfl | rfl | rfl<;>decide
theorem Bs.held {x:X} {o:Op} {t:Thr} {pc:Int} (b:Bs x o t pc) (r:IC pc) (h0:Gm t pc≠0):x.L (Gm t pc):=by
 rcases r with rfl | rfl | rfl | rfl | rfl
 ·exact b.h h0
 ·exact b.g h0
 ·exact b.kk h0
 ·exact b.v δ δ h0
 ·exact b.v δ δ h0
theorem Bs.go {x:X} {o:Op} {t:Thr} {pc:Int} (b:Bs x o t pc) (r:IC pc) (hn:¬ BR x.t (Gm t pc)):Bs x o t (Ih pc):=by
 rcases r with rfl | rfl | rfl | rfl | rfl
 ·exact⟨δ,b.k,b.h,b.g,b.kk,b.h0,λ_=>hn,λh=>absurd h δ,λh=>absurd h δ,λh=>absurd h δ,λh=>absurd h δ,λh=>absurd h δ,λh=>absurd h δ,λh=>absurd h δ,λh=>absurd h δ,λh=>absurd h δ,λh=>absurd h δ,λh=>absurd h δ,λh=>absurd h δ,λh=>absurd h δ,λh=>absurd h δ⟩
 ·exact⟨δ,b.k,b.h,b.g,b.kk,b.h0,λ_=>b.nh δ,λ_=>hn,λh=>absurd h δ,λh=>absurd h δ,λh=>absurd h δ,λh=>absurd h δ,λh=>absurd h δ,λh=>absurd h δ,λh=>absurd h δ,λh=>absurd h δ,λh=>absurd h δ,λh=>absurd h δ,λh=>absurd h δ,λh=>absurd h δ,λh=>absurd h δ⟩
 ·exact⟨δ,b.k,b.h,b.g,b.kk,b.h0,λ_=>b.nh δ,λ_=>b.ng δ,λ_=>hn,λh=>absurd h δ,λh=>absurd h δ,λh=>absurd h δ,λh=>absurd h δ,λh=>absurd h δ,λh=>absurd h δ,λh=>absurd h δ,λh=>absurd h δ,λh=>absurd h δ,λh=>absurd h δ,λh=>absurd h δ,λh=>absurd h δ⟩
 ·exact⟨δ,b.k,b.h,b.g,b.kk,b.h0,λ_=>b.nh δ,λ_=>b.ng δ,λ_=>b.nk δ,λ_=>b.s δ,λ_=>b.f δ,λ_=>b.k5 δ,λh=>absurd h δ,λh=>absurd h δ,λh=>absurd h δ,λh=>absurd h δ,λh=>absurd h δ,λh=>absurd h δ,λ_ _=>b.v δ δ,λ_=>hn,λh=>absurd h δ⟩
 ·exact⟨δ,b.k,b.h,b.g,b.kk,b.h0,λ_=>b.nh δ,λ_=>b.ng δ,λ_=>b.nk δ,λ_=>b.s δ,λ_=>b.f δ,λh=>absurd h δ,λh=>absurd h δ,λh=>absurd h δ,λh=>absurd h δ,λ_=>b.k10 δ,λh=>absurd h δ,λh=>absurd h δ,λ_ _=>b.v δ δ,λ_=>hn,λ_=>b.p15 δ⟩
theorem Bs.hold {x:X} {o:Op} {t:Thr} {pc f:Int} (b:Bs x o t pc) (r:IC pc) (hL:x.L f) (h0:f≠0) (hn:¬ BR x.t f):Bs x o (Fv t pc f) (Ih pc):=by
 rcases r with rfl | rfl | rfl | rfl | rfl
 ·have b1:Bs x o { t with h:=f } 1:=⟨b.p,b.k,λ_=>hL,b.g,b.kk,λ_=>h0,λh=>absurd h δ,λh=>absurd h δ,λh=>absurd h δ,λh=>absurd h δ,λh=>absurd h δ,b.k5,b.k6,b.k8,b.k9,b.k10,λh=>absurd h δ,b.l14,b.v,b.nv,b.p15⟩;exact (b1.go (.inl rfl) hn).eqv rfl rfl rfl rfl rfl rfl
 ·have b1:Bs x o { t with g:=f } 2:=⟨b.p,b.k,b.h,λ_=>hL,b.kk,b.h0,b.nh,λh=>absurd h δ,λh=>absurd h δ,λh=>absurd h δ,λh=>absurd h δ,b.k5,b.k6,b.k8,b.k9,b.k10,λh=>absurd h δ,b.l14,b.v,b.nv,b.p15⟩;exact (b1.go (.inr (.inl rfl)) hn).eqv rfl rfl rfl rfl rfl rfl
 ·have b1:Bs x o { t with k:=f } 3:=⟨b.p,b.k,b.h,b.g,λ_=>hL,b.h0,b.nh,b.ng,λh=>absurd h δ,λh=>absurd h δ,λh=>absurd h δ,b.k5,b.k6,b.k8,b.k9,b.k10,λh=>absurd h δ,b.l14,b.v,b.nv,b.p15⟩;exact (b1.go (.inr (.inr (.inl rfl))) hn).eqv rfl rfl rfl rfl rfl rfl
 ·have b1:Bs x o { t with v:=f } 11:=⟨b.p,b.k,b.h,b.g,b.kk,b.h0,b.nh,b.ng,b.nk,b.s,b.f,b.k5,b.k6,b.k8,b.k9,b.k10,λh=>absurd h δ,b.l14,λ_ _ _=>hL,λh=>absurd h δ,b.p15⟩;exact (b1.go (.inr (.inr (.inr (.inl rfl)))) hn).eqv rfl rfl rfl rfl rfl rfl
 ·have b1:Bs x o { t with v:=f } 15:=⟨b.p,b.k,b.h,b.g,b.kk,b.h0,b.nh,b.ng,b.nk,b.s,b.f,b.k5,b.k6,b.k8,b.k9,b.k10,λh=>absurd h δ,b.l14,λ_ _ _=>hL,λh=>absurd h δ,b.p15⟩;exact (b1.go (.inr (.inr (.inr (.inr rfl)))) hn).eqv rfl rfl rfl rfl rfl rfl
def rk (pc:Int):Nat:=if pc = 1 then 4 else if pc = 2 then 3 else if pc = 3 then 2 else if pc = 4 then 1 else if pc = 11 then 1 else if pc = 15 then 2 else if pc = 16 then 1 else if pc = 30 then 1 else 0
def PH (i pc:Int) (S' : Sim):Prop:=S'.used = true∨∃t',idx S'.th i = some t'∧(t'.pc = 0∨rk t'.pc < rk pc)
def Out (P:List (List Op)) (c:Nat) (i pc:Int) (r:Option Sim):Prop:=∃S' g',r = some S'∧IG P S' g'∧Bd (c + 1) S'∧PH i pc S'
theorem Eo {a:Int} (h:0≤a):AI a = a / 16:=by unfold AI;rw[if_neg ω]
theorem IG.in_ {S:Sim} {g:Gh} (I:IG P S g) {a:Int} (h:g.L a):16≤a∧1≤a / 16∧a / 16 < S.AB.length∧a + sz S.AE a≤S.AE.length∧2≤sz S.AE a∧sz S.AE a≤10:=by
 obtain⟨g1,g2,g3,g4,g5,g6,g7,g8⟩:=I.sh.g.inn (I.sh.lb a h);exact⟨g1,g2,g3,g6,g7,g8⟩
theorem IG.frm {S:Sim} {g:Gh} (I:IG P S g) {a:Int} (h:a≠0→g.L a):∃b,S.from_ a = some b∧(b = true↔BR S.AB a):=by
 unfold Sim.from_;by_cases c:a = 0
 ·subst c;refine⟨false,σ,?_⟩;have:=I.sh.g.ok.e;unfold BR;have e:rv S.AB 0 = DZ:=this;rw[show (0:Int) / 16 = 0 from rfl,e];simp[DZ]
 ·obtain⟨h1,h2,h3,_⟩:=I.in_ (h c);rw[if_neg c,Eo ω,KS ω h3];refine⟨_,rfl,?_⟩;unfold BR;simp only[beq_iff_eq];exact⟨λh=>⟨ω,h⟩,λh=>h.2⟩
theorem IG.wl {S:Sim} {g:Gh} (I:IG P S g):S.AE.length≤192:=by
 have h1:=I.sh.g.len;have h2:=I.sh.g.ok.n1;simp only at h1 h2;omega
end Sm
end
section
namespace Sm
variable {P:List (List Op)}
end Sm
end
section
namespace Sm
variable {P:List (List Op)}
end Sm
end
section
namespace Sm
variable {P:List (List Op)}
def Qg (P:List (List Op)) (c:Nat) (r:Option Sim):Prop:=∃S' g',r = some S'∧IG P S' g'∧Bd (c + 1) S'∧S'.used = true
theorem Qg.out {c:Nat} {i pc:Int} {r:Option Sim} (h:Qg P c r):Out P c i pc r:=by
 obtain⟨S',g',h1,h2,h3,h4⟩:=h;exact⟨S',g',h1,h2,h3,.inl h4⟩
section
variable {c:Nat} {S:Sim} {g:Gh} {i:Int} {t:Thr} {o:Op}
end
end Sm
end
section
namespace Sm
variable {P:List (List Op)}
section
variable {c:Nat} {S:Sim} {g:Gh} {i:Int} {t:Thr} {o:Op}
end
end Sm
end
section
namespace Sm
variable {P:List (List Op)}
section
variable {c:Nat} {S:Sim} {g:Gh} {i:Int} {t:Thr} {o:Op}
end
end Sm
end
section
namespace Sm
variable {P:List (List Op)}
end Sm
end
section
namespace Sm
variable {P:List (List Op)}
section
variable {c:Nat} {S:Sim} {g:Gh}
theorem C1.col {x:X} {c c' : Col} (C:C1 x c) (h:c'.pc = c.pc) (h1:c'.p = c.p) (h2:c'.sh = c.sh) (h3:c'.i = c.i):C1 x c':=by
 refine⟨by rw[h];exact C.pc,by rw[h,h1,h2,h3];exact C.p2,?_⟩;rw[h,h1,h3];exact C.sc
end
end Sm
end
section
namespace Sm
variable {P:List (List Op)}
section
variable {c:Nat} {S:Sim} {g:Gh}
end
end Sm
end
section
namespace Sm
variable {P:List (List Op)}
section
variable {c:Nat} {S:Sim} {g:Gh}
end
end Sm
end
section
namespace Sm
variable {P:List (List Op)}
theorem EK {f:Int→Rg→Rg} {t:List Rg}:(rows f t).length = t.length:=by simp[rows]
theorem Kl {f:Int→Rg→Rg} {t:List Rg} {r:Int} (h0:0≤r) (h1:r < t.length):rv (rows f t) r = if r = 0 then rv t r else f r (rv t r):=by
 obtain⟨k,rfl⟩:∃k:Nat,r = k:=⟨r.toNat,ω⟩;rw[rv,H5 (by rw[EK];omega),rv,H5 ω];simp only[rows,List.getElem_mapIdx];by_cases c:k = 0
 ·rw[if_pos c,if_pos ω]
 ·rw[if_neg c,if_neg ω]
theorem TOk.rows {f:Int→Rg→Rg} {t:List Rg} (T:TOk t) (h:∀r x,Ib r x→Ib r (f r x)∧(f r x).AM = x.AM):TOk (rows f t):=by
 have e:∀r:Int,1≤r→r < t.length→rv (Sm.rows f t) r = f r (rv t r):=λr r0 r1=>by rw[Kl ω r1,if_neg ω]
 refine⟨by rw[EK];exact T.n0,by rw[EK];exact T.n1,?_,λr r0 r1=>?_,λr s r0 r1 s0 s1 ho he=>?_⟩
 ·have:=T.n0;rw[Kl ω ω,if_pos rfl];exact T.e
 ·rw[EK] at r1;rw[e r r0 r1];exact (h r _ (T.row r r0 r1)).1
 ·rw[EK] at r1 s1;rw[e r r0 r1] at ho he;rw[e s s0 s1] at he;rw[(h r _ (T.row r r0 r1)).2] at ho he;rw[(h s _ (T.row s s0 s1)).2] at he;exact T.own r s r0 r1 s0 s1 ho he
structure OT (L:Int→Prop) (t:Thr):Prop where
 pc:t.pc = 0
 g:t.g = 0
 k:t.k = 0
 nx:0≤t.next
 rl:t.AD.length≤8
 rt:∀a∈t.AD,a≠0→L a
theorem OT.ti {x:X} {i:Int} {po:Option Op} {t:Thr} (s:OT x.L t):TI x i po t:=⟨s.rt,s.rl,s.nx,λ_ _ h=>absurd s.pc h,.inl ⟨s.pc,s.g,s.k⟩⟩
section
variable {c:Nat} {S:Sim} {g:Gh}
end
end Sm
end
section
namespace Sm
variable {P:List (List Op)}
theorem J6 {held:List Int}:∀(l:List Rg) (i:Nat),(Bv held i l).Nodup∧∀r∈Bv held i l,∃k,∃h:k < l.length,r = (i + k:Nat)∧B8 held 0 (i + k) l[k] = true:=by
 intro l;induction l with
 | nil=>intro i;exact⟨by simp[Bv],λr hr=>by simp[Bv] at hr⟩
 | cons x l ih=>
  intro i;obtain⟨h1,h2⟩:=ih (i + 1);have h2' : ∀r∈Bv held (i + 1) l,∃k,∃h:k < (x :: l).length,r = (i + k:Nat)∧B8 held 0 (i + k) (x :: l)[k] = true:=λr hr=>by
   obtain⟨k,hk,e,hc⟩:=h2 r hr;exact⟨k + 1,by simpa using hk,by rw[e];congr 1;omega,by rw[show i + (k + 1) = i + 1 + k from ω];exact hc⟩
  simp only[Bv];split
  ·refine⟨SZ.2 ⟨λhm=>?_,h1⟩,λr hr=>?_⟩
   ·obtain⟨k,_,e,_⟩:=h2 _ hm;omega
   ·rcases Rf.1 hr with h | h
    ·exact⟨0,σ,by rw[h];rfl,by assumption⟩
    ·exact h2' r h
  ·exact⟨h1,h2'⟩
theorem I7 {held:List Int} {n:Int}:∀(l:List Rg) (i:Nat) (left:Int),∀r∈(BJ held n i l left).2,∃k,∃h:k < l.length,r = (i + k:Nat)∧B8 held n (i + k) l[k] = true:=by
 intro l;induction l with
 | nil=>intro i left r hr;simp[BJ] at hr
 | cons x l ih=>
  intro i left r hr;have h2' : ∀left,r∈(BJ held n (i + 1) l left).2→∃k,∃h:k < (x :: l).length,r = (i + k:Nat)∧B8 held n (i + k) (x :: l)[k] = true:=λleft hr=>by
   obtain⟨k,hk,e,hc⟩:=ih (i + 1) left r hr;exact⟨k + 1,by simpa using hk,by rw[e];congr 1;omega,by rw[show i + (k + 1) = i + 1 + k from ω];exact hc⟩
  simp only[BJ] at hr;split at hr
  ·rename_i hc;rcases Rf.1 hr with h | h
   ·exact⟨0,σ,by rw[h];rfl,by simp only[z_b] at hc;exact hc.1⟩
   ·exact h2' _ h
  ·exact h2' _ hr
theorem GX {t:List Rg} {held:List Int}:∀(k:Nat) (n left:Int),∀r∈BQ t held k n left,∃m,n≤m∧∃j,∃h:j < t.tail.length,r = (1 + j:Nat)∧B8 held m (1 + j) t.tail[j] = true:=by
 intro k;induction k with
 | zero=>intro n left r hr;simp[BQ] at hr
 | succ k ih=>
  intro n left r hr;simp only[BQ,Rq] at hr;rcases hr with h | h
  ·obtain⟨j,hj,e,hc⟩:=I7 t.tail 1 left r h;exact⟨n,Int.le_refl n,j,hj,e,hc⟩
  ·obtain⟨m,hm,h2⟩:=ih (n + 1) _ r h;exact⟨m,ω,h2⟩
theorem choose_spec {t:List Rg} {AH:Int} {held:List Int} (T:TOk t):((CT t AH held).2).Nodup∧
  (∀r∈(CT t AH held).2,1≤r∧r < t.length∧(rv t r).kind = 3∧(rv t r).top = (rv t r).Bl∧(rv t r).AQ = 0∧r ∉ held)∧
  (∀r∈(CT t AH held).1,1≤r∧r < t.length∧(rv t r).kind = 3∧(rv t r).top = (rv t r).Bl∧1≤(rv t r).AQ∧r ∉ held):=by
 have key:∀(m:Int) (j:Nat) (h:j < t.tail.length),B8 held m (1 + j) t.tail[j] = true→1≤((1 + j:Nat):Int)∧((1 + j:Nat):Int) < t.length∧(rv t (1 + j:Nat)).kind = 3∧(rv t (1 + j:Nat)).top = (rv t (1 + j:Nat)).Bl∧(rv t (1 + j:Nat)).AQ = m∧((1 + j:Nat):Int) ∉ held:=λm j h hc=>by
  rw[Gf h] at hc;simp only[B8,z_b,z_d,beq_iff_eq,Rt,List.contains_eq_mem,decide_eq_false_iff_not] at hc;simp only[TF] at h;exact⟨ω,ω,hc.1.1.1.1,hc.1.1.1.2,hc.1.1.2,hc.2⟩
 unfold CT;rw[if_pos (BZ.2 T)];obtain⟨f1,f2⟩:=J6 (held:=held) t.tail 1;refine⟨f1,λr hr=>?_,λr hr=>?_⟩
 ·obtain⟨k,hk,e,hc⟩:=f2 r hr;rw[e];exact key 0 k hk hc
 ·obtain⟨m,hm,j,hj,e,hc⟩:=GX 16 1 AH r hr;obtain⟨h1,h2,h3,h4,h5,h6⟩:=key m j hj hc;rw[e];exact⟨h1,h2,h3,h4,ω,h6⟩
section
variable {c:Nat} {S:Sim} {g:Gh}
end
end Sm
end
section
namespace Go.Lf
open Go Sm
theorem RD {R:RM} {D:Chs} {v:Value} {l:List Int} {i:Int} {k:Value→M} (h:Ai R v l) (h0:0≤i) (h1:i < l.length) (H:∀q:Value,(∀(D' : Chs) (k' : Value→M),J R D' (k' (I (l[i.toNat]'(ω))))→J R D' (L1 q k'))→J R D (k q)):J R D (IA 1 v (I i) k):=by
 rcases h with ⟨_,h2,_⟩ | ⟨b,o,cap,t,cs,rfl,h2,h3,h4,h5⟩
 ·omega
 ·refine jia h0 h1 (H _ λD' k' H'=>jlr h2 ?_ H');have:=congrArg (λl=>l[i.toNat]?) h4;simp only[Sk,Sd,S4] at this;rw[if_pos ω,RU (by omega:i.toNat < l.length)] at this;rw[TQ,this];rfl
theorem jsi {R:RM} {b k:Nat} {l:List Int} {sp:List Value} {w:Int} {D D' : Chs} {m:M} (hk:k < l.length) [a:At D b (C AW (l.map I ++ sp))] [u:Up D b (C AW (l.map I ++ sp)) (C AW ((l.set k w).map I ++ sp)) D'] (H:J R D' m):J R D (ST 1 (.pointer (some ⟨b,0 + k * 1,none⟩)) (I w) m):=by
 rw[SY,TQ];refine js (cs':=(l.set k w).map I ++ sp) rfl rfl (by simp;omega) ?_ H;rw[show cl (I w) = [I w] from rfl,L7 (by simp;omega),List.set_append_left _ _ (by simpa using hk),List.map_set]
theorem Ai.sl {R:RM} {v:Value} {l:List Int} (h:Ai R v l):∃a c,v = .slice a l.length c:=by
 obtain⟨a,cap,hsv,-⟩:=Ai.reads (D:=[]) h;exact⟨a,cap,hsv⟩
theorem Le (a:Option Addr) (n c:Nat) (hn:n < 1000000000000):Pu G7 [.slice a n c] (.bool (Ag n)):=by
 intro R;refine Jf λF=>?_
 refine z_1 ?_;have eq:(n:Int).tdiv 16 = (n / 16:Nat):=by rw[SQ ω];omega
 have er:(n:Int).tmod 16 = (n % 16:Nat):=by rw[Sz ω];omega
 refine jln (Jo δ ⟨ω,ω⟩ ?_);rw[eq];refine jan [I ((n / 16:Nat):Int)] (((n:Int).tmod 16 == 0) && (decide (((n / 16:Nat):Int)≥2))) (λK' hK'=>?_) (λe c u ho he=>?_)
 ·refine jln (JB δ (jeq (Bc (λh1=>?_) (λh1=>?_))))
  ·refine jge (hK' _ _ _ (h1▸Ac) (by rw[h1,Rj]))
  ·exact hK' _ _ _ (h1▸Aj) (by rw[h1,Rl])
 refine z_V ?_;refine jan [] ((((n:Int).tmod 16 == 0) && decide (((n / 16:Nat):Int)≥2)) && (decide (((n / 16:Nat):Int)≤12))) (λK' hK'=>?_) (λe c u ho he=>?_)
 ·rw[ho];refine Bc (λh1=>?_) (λh1=>?_)
  ·refine jle (hK' _ _ _ (h1▸Ac) (by rw[h1,Rj]))
  ·exact hK' _ _ _ (h1▸Aj) (by rw[h1,Rl])
 refine z_V ?_;rw[ho];refine AV (A:=[]) (RM.le.refl R) ?_;congr 1;unfold Ag;rw[er,Sa];simp only[z_b,z_d,beq_iff_eq];constructor<;>rintro⟨⟨h1,h2⟩,h3⟩<;>exact⟨⟨ω,ω⟩,ω⟩
theorem NW (x:Option Addr) (n cc:Nat) (a size:Int) (hn:n < 1000000000000):Pu Gv [.slice x n cc,I a,I size] (.bool (fits n a size)):=by
 intro R;refine K1 λF=>?_
 refine z_3 ?_;refine jan [.slice x n cc,I a,I size] ((Ag n) && (decide (size > 0))) (λK' hK'=>?_) (λe c u ho he=>?_)
 ·refine jp (Le x n cc hn) (Bc (λh1=>?_) (λh1=>?_))
  ·refine jgr (hK' _ _ _ (h1▸Ac) (by rw[h1,Rj]))
  ·exact hK' _ _ _ (h1▸Aj) (by rw[h1,Rl])
 refine z_V ?_;refine jan [.slice x n cc,I a,I size] ((Ag n && decide (size > 0)) && (decide (size≤16))) (λK' hK'=>?_) (λe c u ho he=>?_)
 ·rw[ho];refine Bc (λh1=>?_) (λh1=>?_)
  ·refine jle (hK' _ _ _ (h1▸Ac) (by rw[h1,Rj]))
  ·exact hK' _ _ _ (h1▸Aj) (by rw[h1,Rl])
 refine z_V ?_;refine jan [.slice x n cc,I a,I size] ((Ag n && decide (size > 0) && decide (size≤16)) && (decide (a≥16))) (λK' hK'=>?_) (λe c u ho he=>?_)
 ·rw[ho];refine Bc (λh1=>?_) (λh1=>?_)
  ·refine jge (hK' _ _ _ (h1▸Ac) (by rw[h1,Rj]))
  ·exact hK' _ _ _ (h1▸Aj) (by rw[h1,Rl])
 refine z_V ?_;refine jan [I a,I size] ((Ag n && decide (size > 0) && decide (size≤16) && decide (a≥16)) && (decide (a < n))) (λK' hK'=>?_) (λe c u ho he=>?_)
 ·rw[ho];refine Bc (λh1=>?_) (λh1=>?_)
  ·refine jln (jlt (hK' _ _ _ (h1▸Ac) (by rw[h1,Rj])))
  ·exact hK' _ _ _ (h1▸Aj) (by rw[h1,Rl])
 refine z_V ?_;refine jan [] ((Ag n && decide (size > 0) && decide (size≤16) && decide (a≥16) && decide (a < n)) && (AI a == AI (a + size - 1))) (λK' hK'=>?_) (λe c u ho he=>?_)
 ·rw[ho];refine Bc (λh1=>?_) (λh1=>?_)
  ·have h2:=h1;simp only[z_b,z_d] at h2;have r1:AI a≤9223372036854775807:=by unfold AI;split<;>omega
   have r2:AI (a + size - 1)≤9223372036854775807:=by unfold AI;split<;>omega
   refine jp (Ha a r1) (jad (jsu (jp (Ha _ r2) (jeq (hK' _ _ _ (h1▸Ac) (by rw[h1,Rj]))))))
  ·exact hK' _ _ _ (h1▸Aj) (by rw[h1,Rl])
 refine z_V ?_;rw[ho];refine AV (A:=[]) (RM.le.refl R) ?_;congr 1
def eTh (t:AF) (rv nv:Value):List Value:=[I t.at_,I t.moved,I t.sh.refs,I t.sh.nums,rv,nv]
def ThV (R:RM) (v:Value) (t:AF):Prop:=∃rv nv,v = .agg (eTh t rv nv).toArray∧Ai R rv t.refs∧Ai R nv t.nums
theorem ThV.le {R R' : RM} {v:Value} {t:AF} (h:R.le R') (H:ThV R v t):ThV R' v t:=by
 obtain⟨rv,nv,h1,h2,h3⟩:=H;exact⟨rv,nv,h1,h2.le h,h3.le h⟩
theorem Dc {n:Nat} {a size:Int} (h:fits n a size = true):16≤a∧a + size≤n∧0 < size∧size≤16:=by
 unfold fits Ag at h;simp only[z_b,z_d,beq_iff_eq] at h;obtain⟨⟨⟨⟨⟨⟨⟨h1,h2⟩,h3⟩,h4⟩,h5⟩,h6⟩,h7⟩,h8⟩:=h;unfold AI at h8;rw[if_neg ω,if_neg ω] at h8;refine⟨h6,?_,h4,h5⟩;omega
theorem EP {w:Int} (h:(AT w).2 = true):0≤(AT w).1.refs∧(AT w).1.refs≤4∧0≤(AT w).1.nums∧(AT w).1.nums≤4∧AA (AT w).1 = 2 + (AT w).1.refs + (AT w).1.nums:=by
 unfold AT at h ⊢;split at h
 ·rename_i hc;rw[if_pos hc];have h1:Ad ⟨w / 16,w % 16⟩ = true:=by
   unfold Ad;simp only[z_b,z_d];omega
  refine⟨by dsimp only;omega,by dsimp only;omega,by dsimp only;omega,by dsimp only;omega,?_⟩;unfold AA;rw[if_pos h1]
 ·exact absurd h δ
def SW (t w:Nat) (rows:List (List Value)) (v:Value) (A:Chs):Prop:=
 (rows = []∧v = SN∧A = [])∨∃b c sp,rows.length≤c∧sp.length = (c - rows.length) * w∧v = S0 b rows.length c∧A = [(b,C t (rows.flatten ++ sp))]
theorem SW.sl {t w:Nat} {rows:List (List Value)} {v:Value} {A:Chs} (h:SW t w rows v A):∃a c,v = .slice a rows.length c:=by
 rcases h with ⟨rfl,rfl,_⟩ | ⟨b,c,sp,_,_,rfl,_⟩<;>exact⟨_,_,rfl⟩
theorem jaw {R:RM} {A E:Chs} {t w by_:Nat} {rows rows2:List (List Value)} {v:Value} {xa:Option Addr} {m cx:Nat} {zs:List Value} {k:Value→M} (so:SW t w rows v A)
  (hw:∀r∈rows,r.length = w) (hw2:∀r∈rows2,r.length = w) (hz:zs.length = w) (hf:BU rows2.flatten = true) (hm:m = rows2.length) (hb:by_≠0) (hl:by_ * (2 * (rows.length + rows2.length) + 200)≤2 ^ 48) (hx:BB R (A ++ E) xa (m * w) rows2.flatten)
  (H:∀v' A',SW t w (rows ++ rows2) v' A'→J R (A' ++ E) (k v')):J R (A ++ E) (AP t w by_ zs v (.slice xa m cx) k):=by
 subst hm;have fl:∀n,(List.replicate n zs).flatten.length = n * w:=λn=>by
  rw[BI (by intro x hx;rw[(SG.1 hx).2,hz])];simp
 have l1:=BI hw;have l2:=BI hw2;rcases so with ⟨rfl,rfl,rfl⟩ | ⟨b,c,sp,hc,hsp,rfl,rfl⟩
 ·refine jap hx (by rw[TO];exact BB.none_) hb (by simpa using hl) (λhc h hst=>?_) (λb c hc=>?_)
  ·have h0:rows2 = []:=Sj.1 ω;subst h0;have:=H (SN) [] (.inl ⟨rfl,rfl,rfl⟩) h hst;simpa using this
  ·have:=H (S0 b rows2.length c) [(b,C t (rows2.flatten ++ (List.replicate (c - rows2.length) zs).flatten))] (.inr ⟨b,c,(List.replicate (c - rows2.length) zs).flatten,by simpa using hc,by rw[fl];simp,σ,σ⟩);simpa using this
 ·refine QK hx (by rw[Rc,l1,hsp,← Nat.add_mul];congr 1;omega) hc l2 hf hb hl (λh=>?_) (λb' c' h=>?_)
  ·have el:lay (rows.flatten ++ sp) (rows.length * w) rows2.flatten = (rows ++ rows2).flatten ++ sp.drop (rows2.length * w):=by
    rw[In ω,l1,Nat.sub_self];simp[lay,l2]
   rw[el];have:=H (S0 b (rows ++ rows2).length c) [(b,C t ((rows ++ rows2).flatten ++ sp.drop (rows2.length * w)))] (.inr ⟨b,c,_,by simpa using h,by rw[SR,hsp,← Nat.sub_mul,Rc];congr 1;omega,rfl,rfl⟩);simpa using this
  ·refine Bq (T8 _ _ _) (BH ?_);have:=H (.slice (some ⟨b',0,none⟩) (rows ++ rows2).length c') [(b',C t ((rows ++ rows2).flatten ++ (List.replicate (c' - (rows.length + rows2.length)) zs).flatten))] (.inr ⟨b',c',_,by simpa using h,by rw[fl,Rc],rfl,rfl⟩);rw[SC ω,RX ω];simpa using this
theorem jfw {R:RM} {A E:Chs} {t w:Nat} {rows:List (List Value)} {v:Value} {m:M} (so:SW t w rows v A) (hw:∀r∈rows,r.length = w) (H:∀R',R.le R'→Fz R' v w rows.length rows.flatten→J R' E m):J R (A ++ E) m:=by
 rcases so with ⟨rfl,rfl,rfl⟩ | ⟨b,c,sp,hc,hsp,rfl,rfl⟩
 ·exact H R (RM.le.refl _) (.inl ⟨rfl,rfl,rfl⟩)
 ·refine AJ (t:=⟨SJ _⟩) λR2 hR2 hb=>(H R2 hR2 (.inr ⟨b,0,c,t,_,rfl,hb,by rw[Rc,BI hw];omega,by rw[TG,← BI hw];simp,hc⟩))
def Rw {α:Type} (p:List Value→α→Prop) (rows:List (List Value)) (l:List α):Prop:=rows.length = l.length∧∀i (h:i < rows.length) (h' : i < l.length),p rows[i] l[i]
theorem Rw.nil {α:Type} {p:List Value→α→Prop}:Rw p [] []:=⟨rfl,λi h=>absurd h σ⟩
theorem Rw.app {α:Type} {p:List Value→α→Prop} {r1 r2:List (List Value)} {l1 l2:List α} (h1:Rw p r1 l1) (h2:Rw p r2 l2):Rw p (r1 ++ r2) (l1 ++ l2):=by
 refine⟨by rw[Rc,Rc,h1.1,h2.1],λi h h'=>?_⟩;by_cases c:i < r1.length
 ·rw[T7 c,T7 (by rw[← h1.1];exact c)];exact h1.2 i c _
 ·rw[Sc ω,Sc (by rw[← h1.1];omega)];have e:i - l1.length = i - r1.length:=by rw[h1.1]
  rw[getElem_congr_idx e];rw[Rc] at h h';have:=h1.1;exact h2.2 _ ω ω
theorem Rw.one {α:Type} {p:List Value→α→Prop} {r:List Value} {x:α} (h:p r x):Rw p [r] [x]:=by
 refine⟨rfl,λi h1 h2=>?_⟩;have:i = 0:=by simp at h1;omega
 subst this;exact h
theorem Rw.mono {α:Type} {p q:List Value→α→Prop} {r:List (List Value)} {l:List α} (h:Rw p r l) (H:∀x y,p x y→q x y):Rw q r l:=⟨h.1,λi h1 h2=>H _ _ (h.2 i h1 h2)⟩
theorem Rw.all {α:Type} {p:List Value→α→Prop} {r:List (List Value)} {l:List α} (h:Rw p r l) {q:List Value→Prop} (H:∀x y,p x y→q x):∀x∈r,q x:=by
 intro x hx;obtain⟨i,hi,rfl⟩:=S5 hx;exact H _ _ (h.2 i hi (by rw[← h.1];exact hi))
theorem JM {w:Nat}:∀{rows:List (List Value)} {i:Nat} (_:∀r∈rows,r.length = w) (h:i < rows.length),(rows.flatten.drop (i * w)).take w = rows[i]
 | [],i,_,h=>absurd h σ
 | a :: r,0,hw,_=>by
  have:a.length = w:=hw a σ;rw[TO,TG,Sx,SC ω,RX ω];rfl
 | a :: r,i + 1,hw,h=>by
  have h1:a.length = w:=hw a σ;rw[Sx,Nat.succ_mul,List.drop_append,List.drop_of_length_le ω,zl,h1,Nat.add_sub_cancel];exact JM (λr hr=>hw r (by simp[hr])) (by simpa using h)
theorem HC {R:RM} {v:Value} {w:Nat} {rows:List (List Value)} {i:Nat} (h:Fz R v w rows.length rows.flatten) (hw:∀r∈rows,r.length = w) (hi:i < rows.length) :
  ∃b o cap t cs,v = .slice (some ⟨b,o,none⟩) rows.length cap∧R b = some (C t cs)∧o + i * w + w≤cs.length∧(cs.drop (o + i * w)).take w = rows[i]:=by
 rcases h with ⟨_,h2,_⟩ | ⟨b,o,cap,t,cs,rfl,h2,h3,h4,h5⟩
 ·omega
 ·refine⟨b,o,cap,t,cs,rfl,h2,?_,?_⟩
  ·have:(i + 1) * w≤rows.length * w:=Sv w ω;rw[Nat.succ_mul] at this;omega
  ·rw[← JM hw hi,← h4,List.drop_take,List.drop_drop,List.take_take];congr 1;have:(i + 1) * w≤rows.length * w:=Sv w ω;rw[Nat.succ_mul] at this;omega
def ThC (R:RM) (row:List Value) (t:AF):Prop:=∃rv nv,row = eTh t rv nv∧Ai R rv t.refs∧Ai R nv t.nums
theorem ThC.le {R R' : RM} {row:List Value} {t:AF} (h:R.le R') (H:ThC R row t):ThC R' row t:=by
 obtain⟨rv,nv,h1,h2,h3⟩:=H;exact⟨rv,nv,h1,h2.le h,h3.le h⟩
theorem ThC.len {R:RM} {row:List Value} {t:AF} (H:ThC R row t):row.length = 6:=by
 obtain⟨rv,nv,rfl,h2,h3⟩:=H;rfl
theorem ThC.flat {R:RM} {row:List Value} {t:AF} (H:ThC R row t):BU row = true:=by
 obtain⟨rv,nv,rfl,h2,h3⟩:=H;obtain⟨_,_,rfl⟩:=h2.sl;obtain⟨_,_,rfl⟩:=h3.sl;rfl
def Tgs (R:RM) (v:Value) (l:List AF):Prop:=∃rows,Rw (ThC R) rows l∧Fz R v 6 rows.length rows.flatten
theorem Tgs.le {R R' : RM} {v:Value} {l:List AF} (h:R.le R') (H:Tgs R v l):Tgs R' v l:=by
 obtain⟨rows,h1,h2⟩:=H;exact⟨rows,h1.mono λ_ _=>ThC.le h,h2.le h⟩
theorem Tgs.sl {R:RM} {v:Value} {l:List AF} (H:Tgs R v l):∃a c,v = .slice a l.length c:=by
 obtain⟨rows,h1,h2⟩:=H;obtain⟨a,cap,e,-⟩:=Fz.reads (D:=[]) h2;exact⟨a,cap,by rw[e,h1.1]⟩
theorem Bh {R:RM} {D:Chs} {v:Value} {n:Nat} {k:Value→M} (h:∃a c,v = .slice a n c) (H:J R D (k (I n))):J R D (LN v k):=by
 obtain⟨a,c,rfl⟩:=h;exact H
theorem jtg {R:RM} {D:Chs} {v:Value} {l:List AF} {i:Nat} {k:Value→M} (h:Tgs R v l) (hi:i < l.length)
  (H:∀b o t cs rv nv,Ai R rv (l[i]).refs→Ai R nv (l[i]).nums→R b = some (C t cs)→o + 6≤cs.length→(cs.drop o).take 6 = eTh l[i] rv nv→J R D (k (.pointer (some ⟨b,o,none⟩)))):J R D (IA 6 v (I (i:Int)) k):=by
 obtain⟨rows,h1,h2⟩:=h;have hi' : i < rows.length:=by rw[h1.1];exact hi
 obtain⟨b,o,cap,t,cs,rfl,hb,hl,hc⟩:=HC h2 (h1.all λ_ _=>ThC.len) hi';obtain⟨rv,nv,e,r1,r2⟩:=h1.2 i hi' hi;refine jia ω ω ?_;rw[RV];exact H b (o + i * 6) t cs rv nv r1 r2 hb hl (by rw[hc,e])
theorem EQ {cs row:List Value} {o w f:Nat} {x:Value} (h:(cs.drop o).take w = row) (hf:row[f]? = some x):cs[o + f]? = some x:=by
 rw[← h,Sk,Sd] at hf;split at hf
 ·exact hf
 ·cases hf
theorem NQ (s:Shp):0≤AA s∧AA s≤10:=by
 unfold AA;split
 ·rename_i h;unfold Ad at h;simp only[z_b,z_d] at h;omega
 ·omega
theorem HW {w:List Int} {a:Int} (h:(AZ w a).2 = true):2≤AA (AZ w a).1.sh:=by
 unfold AZ at h ⊢;split at h
 ·rename_i h1;rw[if_pos h1];dsimp only at h ⊢;split at h
  ·rename_i h2;rw[if_pos h2];simp only[z_b] at h2;have:=EP h2.1;dsimp only;omega
  ·exact absurd h δ
 ·exact absurd h δ
def QTs (r:Option (List AF)) (v:Value) (R:RM):Prop:=match r with
 | none=>v = .tuple #[SN,.bool false]
 | some l=>∃tv,Tgs R tv l∧v = .tuple #[tv,.bool true]
def RdI (R:RM) (D:Chs) (v:Value) (l:List Int):Prop:=(∃a c,v = .slice a l.length c)∧∀(F:Chs) (i:Nat) (h:i < l.length) (k:Value→M),J R (D ++ F) (k (I l[i]))→J R (D ++ F) (IA 1 v (I (i:Int)) λx=>L1 x k)
theorem Ai.rd {R:RM} {D:Chs} {v:Value} {l:List Int} (h:Ai R v l):RdI R D v l:=
 ⟨h.sl,λF i hi k H=>ER h ω ω (by rw[getElem_congr_idx (RV i)];exact H)⟩
theorem SO.rd {R:RM} {A E:Chs} {v:Value} {l:List Int} (h:SO l v A):RdI R (A ++ E) v l:=by
 rcases h with ⟨rfl,rfl,rfl⟩ | ⟨b,c,sp,hc,hsp,rfl,rfl⟩
 ·exact⟨⟨_,_,rfl⟩,λF i hi=>absurd hi σ⟩
 ·refine⟨⟨_,_,rfl⟩,λF i hi k H=>E5 hi (jl (by rw[SY,TQ];exact ML hi) H)⟩
theorem Pv {R:RM} {A E G:Chs} {l:List Int} {v:Value} {x:Int} {b1 t cx:Nat} {k:Value→M} (so:SO l v A) (hl:l.length + 1 < 1000000000000)
  [s:Sp G A E] (H:∀v' A',SO (l ++ [x]) v' A'→J R (A' ++ E) (k v')):J R ((b1,C t [I x]) :: G) (AP AW 1 8 [I 0] v (S0 b1 1 cx) k):=by
 have hp:((b1,C t [I x]) :: G).Perm (A ++ ((b1,C t [I x]) :: E)):=(s.p.cons _).trans Se.symm;refine Bq hp ?_;have hx:BB R (A ++ ((b1,C t [I x]) :: E)) (some ⟨b1,0,none⟩) (1 * 1) ([x].map I):=BB.held (cs:=[I x]) (z_n 1);refine jas so rfl (by simpa using hl) hx λv' A' so'=>(Bq Se (BH (H v' A' so')))
def eSt (s:Sm.AU) (wv tv mv thv ov pv:Value):List Value:=[wv,tv,mv,I s.Ay,.bool s.stop,.bool s.full,.bool s.C5,I s.want,thv,ov,pv,I s.C4,I s.Cl]
def Rgs (R:RM) (v:Value) (t:List Rg):Prop:=Fz R v 5 t.length (Aq eRg t)
def Bls (R:RM) (v:Value) (l:List Bool):Prop:=Fz R v 1 l.length (l.map Value.bool)
def CR (R:RM) (row:List Value) (t:Th):Prop:=∃rv,row = [rv,I t.next,.bool t.busy,I t.BL]∧Ai R rv t.AD
def Ths (R:RM) (v:Value) (l:List Th):Prop:=∃rows,Rw (CR R) rows l∧Fz R v 4 rows.length rows.flatten
structure StC (R:RM) (s:Sm.AU) (wv tv mv thv ov pv:Value):Prop where
 w:Ai R wv s.AE
 t:Rgs R tv s.AB
 m:Bls R mv s.AS
 th:Ths R thv s.A9
 o:Ai R ov s.old
 p:Ai R pv s.AN
theorem CR.le {R R' : RM} {row:List Value} {t:Th} (h:R.le R') (H:CR R row t):CR R' row t:=by
 obtain⟨rv,h1,h2⟩:=H;exact⟨rv,h1,h2.le h⟩
theorem CR.len {R:RM} {row:List Value} {t:Th} (H:CR R row t):row.length = 4:=by obtain⟨rv,rfl,h2⟩:=H;rfl
theorem CR.flat {R:RM} {row:List Value} {t:Th} (H:CR R row t):BU row = true:=by
 obtain⟨rv,rfl,h2⟩:=H;obtain⟨_,_,rfl⟩:=h2.sl;rfl
theorem Ths.le {R R' : RM} {v:Value} {l:List Th} (h:R.le R') (H:Ths R v l):Ths R' v l:=by
 obtain⟨rows,h1,h2⟩:=H;exact⟨rows,h1.mono λ_ _=>CR.le h,h2.le h⟩
theorem Ths.sl {R:RM} {v:Value} {l:List Th} (H:Ths R v l):∃a c,v = .slice a l.length c:=by
 obtain⟨rows,h1,h2⟩:=H;obtain⟨a,cap,e,-⟩:=Fz.reads (D:=[]) h2;exact⟨a,cap,by rw[e,h1.1]⟩
theorem Fz.sl {R:RM} {v:Value} {w n:Nat} {cells:List Value} (H:Fz R v w n cells):∃a c,v = .slice a n c:=by
 obtain⟨a,cap,e,-⟩:=Fz.reads (D:=[]) H;exact⟨a,cap,e⟩
theorem StC.le {R R' : RM} {s:Sm.AU} {wv tv mv thv ov pv:Value} (h:R.le R') (H:StC R s wv tv mv thv ov pv):StC R' s wv tv mv thv ov pv:=
 ⟨H.w.le h,Fz.le h H.t,Fz.le h H.m,H.th.le h,H.o.le h,H.p.le h⟩
theorem Mq (t:List Rg):∀r∈t.map eRg,r.length = 5:=by
 intro r hr;obtain⟨x,_,rfl⟩:=S6.1 hr;rfl
theorem jrg {R:RM} {D:Chs} {v:Value} {t:List Rg} {i:Nat} {k:Value→M} (h:Rgs R v t) (hi:i < t.length)
  (H:∀b o ty cs,R b = some (C ty cs)→o + 5≤cs.length→(cs.drop o).take 5 = eRg t[i]→J R D (k (.pointer (some ⟨b,o,none⟩)))):J R D (IA 5 v (I (i:Int)) k):=by
 have h' : Fz R v 5 (t.map eRg).length (t.map eRg).flatten:=by rw[Ry];exact h
 obtain⟨b,o,cap,ty,cs,rfl,hb,hl,hc⟩:=HC h' (Mq t) (by simpa using hi);refine jia ω (by rw[Ry];omega) ?_;rw[RV];exact H b (o + i * 5) ty cs hb hl (by rw[hc,List.getElem_map])
theorem jtr {R:RM} {D:Chs} {v:Value} {l:List Th} {i:Nat} {k:Value→M} (h:Ths R v l) (hi:i < l.length)
  (H:∀b o ty cs rv,Ai R rv (l[i]).AD→R b = some (C ty cs)→o + 4≤cs.length→(cs.drop o).take 4 = [rv,I (l[i]).next,.bool (l[i]).busy,I (l[i]).BL]→J R D (k (.pointer (some ⟨b,o,none⟩)))):J R D (IA 4 v (I (i:Int)) k):=by
 obtain⟨rows,h1,h2⟩:=h;have hi' : i < rows.length:=by rw[h1.1];exact hi
 obtain⟨b,o,cap,ty,cs,rfl,hb,hl,hc⟩:=HC h2 (h1.all λ_ _=>CR.len) hi';obtain⟨rv,e,r1⟩:=h1.2 i hi' hi;refine jia ω ω ?_;rw[RV];exact H b (o + i * 4) ty cs rv r1 hb hl (by rw[hc,e])
theorem Jc {w:List Int}:∀{n:Nat} {a top:Int} {l:List AF},AX w n a top = some l→l.length≤n
 | 0,a,top,l,h=>by
  unfold AX at h;split at h
  ·cases h
  ·cases h;simp
 | n + 1,a,top,l,h=>by
  unfold AX at h;split at h
  ·dsimp only at h;split at h
   ·split at h
    ·rename_i l2 h2;cases h;have:=Jc h2;simp;omega
    ·cases h
   ·cases h
  ·cases h;simp
theorem My {w:List Int} {r top:Int} {l:List AF} (h:Ap w r top = some l):l.length≤16:=by
 unfold Ap at h;split at h
 ·exact Jc h
 ·cases h
theorem M8 (had:List Int) (a:Int):had.length≤(Cj had a).length:=by
 unfold Cj;split<;>simp
theorem Gx {l:List AF}:∀{xs acc r:List Int},Ah l xs acc = some r→acc.length≤r.length
 | [],acc,r,h=>by cases h;exact z_n _
 | x :: xs,acc,r,h=>by
  unfold Ah at h;obtain⟨y,_,h⟩:=M1 h;have:=Gx h;have:=M8 acc y;omega
theorem PW {R:RM} {A E:Chs} {l:List Int} {v:Value} {x:Int} {i:Nat} {m:M} (so:SO l v A) (hi:i < l.length) (H:∀A',SO (l.set i x) v A'→J R (A' ++ E) m):J R (A ++ E) (IA 1 v (I (i:Int)) λq=>ST 1 q (I x) m):=by
 rcases so with ⟨rfl,_,_⟩ | ⟨b,c,sp,hc,hsp,rfl,rfl⟩
 ·exact absurd hi σ
 ·refine E5 hi (jsi hi (H _ (.inr ⟨b,c,sp,by simpa using hc,by simpa using hsp,by rw[Sn],rfl⟩)))
theorem Mx (l:List Int) (x:Int):(Hx l x).length = l.length + 1:=by
 unfold Hx;have:∀k,Cs l x k≤k:=by
  intro k;induction k with
  | zero=>exact z_n 0
  | succ k ih=>unfold Cs;split<;>omega
 have:=this l.length;simp only[Rc,Rk,Rr,SR];omega
theorem Gn:∀(l acc:List Int),(l.foldl Hx acc).length = acc.length + l.length
 | [],acc=>σ
 | a :: r,acc=>by rw[List.foldl_cons,Gn r,Mx];simp;omega
def TB (l:List AF):Prop:=∀t∈l,0≤t.at_∧t.at_ < 1000000∧t.refs.length≤4∧t.nums.length≤4
theorem Q0 {w:List Int} {a:Int} (hl:w.length < 1000000) (h:(AZ w a).2 = true):0≤(AZ w a).1.at_∧(AZ w a).1.at_ < 1000000∧(AZ w a).1.refs.length≤4∧(AZ w a).1.nums.length≤4:=by
 unfold AZ at h ⊢;split at h
 ·rename_i h1;rw[if_pos h1];dsimp only at h ⊢;split at h
  ·rename_i h2;rw[if_pos h2];simp only[z_b] at h2;have:=EP h2.1;have:=Dc h1;dsimp only;refine⟨ω,ω,?_,?_⟩
   ·unfold seg;rw[Rk];omega
   ·unfold seg;rw[Rk];omega
  ·exact absurd h δ
 ·exact absurd h δ
theorem LD {w:List Int} (hl:w.length < 1000000):∀{n:Nat} {a top:Int} {l:List AF},AX w n a top = some l→TB l
 | 0,a,top,l,h=>by
  unfold AX at h;split at h
  ·cases h
  ·cases h;intro t ht;cases ht
 | n + 1,a,top,l,h=>by
  unfold AX at h;split at h
  ·dsimp only at h;split at h
   ·rename_i hc;simp only[z_b] at hc;split at h
    ·rename_i l2 h2;cases h;intro t ht;rcases Rf.1 ht with rfl | ht
     ·exact Q0 hl hc.1
     ·exact LD hl h2 t ht
    ·cases h
   ·cases h
  ·cases h;intro t ht;cases ht
theorem Ki {w:List Int} (hl:w.length < 1000000):∀{t:List Rg} {r:Nat} {l:List AF},Ax w r t = some l→TB l∧l.length≤16 * t.length
 | [],r,l,h=>by
  cases h;exact⟨λt ht=>(by cases ht),σ⟩
 | x :: t,r,l,h=>by
  unfold Ax at h;split at h
  ·cases h
  ·rename_i a ha;split at h
   ·cases h
   ·rename_i b hb;cases h;obtain⟨h1,h2⟩:=Ki hl hb;have h3:=My ha;have h4:TB a:=by
     unfold Ap at ha;split at ha
     ·exact LD hl ha
     ·cases ha
    refine⟨λt ht=>?_,by rw[Rc,Rr];omega⟩;rcases Rq.1 ht with ht | ht
    ·exact h4 t ht
    ·exact h1 t ht
theorem HY (cf:Cfg):Pu FU [.agg #[I cf.A8,I cf.A9,I cf.AH]] (.bool (B9 cf)):=by
 intro R;refine IR λF=>?_
 refine z_1 ?_;refine ja λb=>?_
 rw[show cl (.agg #[I cf.A8,I cf.A9,I cf.AH]) = [I cf.A8,I cf.A9,I cf.AH] from rfl];refine jan [Pt b] ((decide (cf.A8≥3)) && (decide (cf.A8≤12))) (λK' hK'=>?_) (λe c u ho he=>?_)
 ·refine jl rfl (jge (Bc (λh1=>?_) (λh1=>?_)))
  ·refine jl rfl (jle (hK' _ _ _ (h1▸Ac) (by rw[h1,Rj])))
  ·exact hK' _ _ _ (h1▸Aj) (by rw[h1,Rl])
 refine z_V ?_;refine jan [Pt b] ((decide (cf.A8≥3) && decide (cf.A8≤12)) && (decide (cf.A9≥1))) (λK' hK'=>?_) (λe c u ho he=>?_)
 ·rw[ho];refine Bc (λh1=>?_) (λh1=>?_)
  ·refine jl rfl (jge (hK' _ _ _ (h1▸Ac) (by rw[h1,Rj])))
  ·exact hK' _ _ _ (h1▸Aj) (by rw[h1,Rl])
 refine z_V ?_;refine jan [Pt b] ((decide (cf.A8≥3) && decide (cf.A8≤12) && decide (cf.A9≥1)) && (decide (cf.A9≤3))) (λK' hK'=>?_) (λe c u ho he=>?_)
 ·rw[ho];refine Bc (λh1=>?_) (λh1=>?_)
  ·refine jl rfl (jle (hK' _ _ _ (h1▸Ac) (by rw[h1,Rj])))
  ·exact hK' _ _ _ (h1▸Aj) (by rw[h1,Rl])
 refine z_V ?_;refine jan [Pt b] ((decide (cf.A8≥3) && decide (cf.A8≤12) && decide (cf.A9≥1) && decide (cf.A9≤3)) && (decide (cf.AH≥0))) (λK' hK'=>?_) (λe c u ho he=>?_)
 ·rw[ho];refine Bc (λh1=>?_) (λh1=>?_)
  ·refine jl rfl (jge (hK' _ _ _ (h1▸Ac) (by rw[h1,Rj])))
  ·exact hK' _ _ _ (h1▸Aj) (by rw[h1,Rl])
 refine z_V ?_;refine jan [] ((decide (cf.A8≥3) && decide (cf.A8≤12) && decide (cf.A9≥1) && decide (cf.A9≤3) && decide (cf.AH≥0)) && (decide (cf.AH≤100))) (λK' hK'=>?_) (λe c u ho he=>?_)
 ·rw[ho];refine Bc (λh1=>?_) (λh1=>?_)
  ·refine jl rfl (jle (hK' _ _ _ (h1▸Ac) (by rw[h1,Rj])))
  ·exact hK' _ _ _ (h1▸Aj) (by rw[h1,Rl])
 refine z_V ?_;rw[ho];exact AV (A:=[]) (RM.le.refl R) rfl
def Oj (t:List Rg) (v:Value) (N:Chs):Prop:=if t = [] then v = .tuple #[SN,.bool false]∧N = [] else ∃sv,Qu t sv N∧v = .tuple #[sv,.bool true]
theorem Kh {R:RM} {D:Chs} (n:Int):Mk FX [I n] R D (Oj (AC n)):=by
 refine Io λF=>?_
 refine z_1 ?_;refine jor [I n] ((decide (n < 2)) || (decide (n > 12))) (λK' hK'=>?_) (λe c u ho he=>?_)
 ·refine jlt (BT (λh1=>?_) (λh1=>?_))
  ·refine jgr (hK' _ _ _ (h1▸AY) (by rw[h1,Re]))
  ·exact hK' _ _ _ (h1▸Ao) (by rw[h1,Rm])
 refine z_V ?_;rw[ho];refine jif (λh0=>?_) (λh0=>?_)
 ·have:AC n = []:=by
   unfold AC;rw[if_pos];simpa using h0
  rw[this];exact MI [] ⟨rfl,rfl⟩
 simp only[SV,decide_eq_false_iff_not] at h0;obtain⟨k,rfl⟩:∃k:Nat,n = k:=⟨n.toNat,ω⟩;have ht:AC k = DZ :: (List.range (k - 1)).map λ(i:Nat)=>EB ((i:Int) + 1):=by
  unfold AC;rw[if_neg ω,RV]
 have ht2:AC k = ((List.range k).map λj:Nat=>EB (j:Int)).set 0 DZ:=by
  rw[ht,show k = (k - 1) + 1 by omega,List.range_succ_eq_map];simp
 refine Aw (λvs R' D'=>R' = R∧∃v A,SW AK 5 (((List.range k).map λj:Nat=>EB (j:Int)).map eRg) v A∧D' = A ++ (D ++ F)∧vs = [v]) (λK hK=>?_) ?_
 ·refine Aw (λvs R' D'=>R' = R∧∃v A,SW AK 5 (((List.range k).map λj:Nat=>EB (j:Int)).map eRg) v A∧D' = A ++ (D ++ F)∧vs = [v]) (λK2 hK2=>?_) ?_;rotate_left
  ·rintro e R1 D1 ⟨hR,v,A,so,hD,he⟩;refine z_W ?_;exact hK _ _ _ ⟨hR,v,A,so,rfl,rfl⟩
  refine jlp (λm vs R' D'=>R' = R∧∃(i:Nat) (v:Value) (A:Chs),i≤k∧SW AK 5 (((List.range i).map λj:Nat=>EB (j:Int)).map eRg) v A∧D' = A ++ (D ++ F)∧vs = [I k,v,I i]∧m = k - i)
   (n:=k) ⟨rfl,0,SN,[],ω,.inl ⟨rfl,rfl,rfl⟩,rfl,rfl,ω⟩ ?_
  rintro m e R1 D1 K3 ⟨hR,i,v,A,hi,so,hD,he,hm⟩ hK3;subst hR;refine z_W ?_;refine jlt (jif (λhc=>?_) (λhc=>?_));rotate_left
  ·have hc:i = k:=by have:=z_g hc;omega
   subst hc;exact hK2 _ _ _ ⟨rfl,v,A,so,rfl,rfl⟩
  have hc:i < k:=by have:=z_f hc;omega
  refine jp (FF i) (jp (FF i) (jbd rfl rfl (jbs rfl rfl λb4=>(Bq Se.symm ?_))));have hx:BB R1 (A ++ ((b4,C AK (eRg (EB (i:Int)))) :: (D ++ F))) (some ⟨b4,0,none⟩) (1 * 5) [eRg (EB (i:Int))].flatten:=BB.held (cs:=eRg (EB (i:Int))) (z_n 5);refine jaw so (Mq _) (by intro r hr;rw[Ri.1 hr];rfl) rfl rfl rfl δ (by simp only[Ry,List.length_range,Ss];omega) hx λv' A' so'=>(jad (Ab A' (G:=D ++ F) (hK3 (k - (i + 1)) _ _ _ ω ⟨rfl,i + 1,v',A',ω,?_,rfl,rfl,rfl⟩)))
  rw[List.range_succ,S8,S8];exact so'
 rintro e R1 D1 ⟨hR,v,A,so,hD,he⟩;subst hR;refine z_W ?_;rcases so with ⟨h1,_,_⟩ | ⟨b,c,sp,hc,hsp,rfl,rfl⟩
 ·have:=congrArg List.length h1;simp at this;omega
 rw[Ry] at hc ⊢;refine jbd rfl rfl ?_;have hlen:((List.range k).map λj:Nat=>EB (j:Int)).length = k:=σ
 refine Bq (SJ _) (E5 (r:=0) ω (M7 (x:=DZ) ω (MI [(b,C AK (Aq eRg (((List.range k).map λj:Nat=>EB (j:Int)).set 0 DZ) ++ sp))] ?_)));rw[ht2];unfold Oj;rw[if_neg (by intro hn;have:=congrArg List.length hn;simp at this;omega)];exact⟨_,⟨b,c,sp,by rw[Sn];exact hc,by rw[Sn],rfl⟩,rfl⟩
theorem N1 {w:List Int} {n k:Nat} (h:n + k < w.length):(w.take n ++ List.replicate k 0 ++ w.drop (n + k)).set (n + k) 0 = w.take n ++ List.replicate (k + 1) 0 ++ w.drop (n + (k + 1)):=by
 have l1:(w.take n ++ List.replicate k (0:Int)).length = n + k:=by simp;omega
 rw[Su _ _ ω,l1,Nat.sub_self,SH h,List.set_cons_zero,TN,RY,RY,RY,List.singleton_append,Nat.add_assoc]
def QMk (r:List Int × Bool) (v:Value) (A:Chs):Prop:=if r.2 then ∃sv,PJ r.1 sv A∧v = .tuple #[sv,.bool true] else v = .tuple #[SN,.bool false]∧A = []
theorem FH {w:List Int} {n z:Nat} {s:Shp} (h0:fits w.length n (AA s) = true) (hso:Ad s = true) (hz:AA s = z) :
  Am w n s = ((((w.take n ++ List.replicate z 0 ++ w.drop (n + z)).set n (n:Int)).set (n + 1) (Au s)),true):=by
 obtain⟨a0,a1,a2,a3⟩:=Dc h0;have hsz:AA s = 2 + s.refs + s.nums:=by unfold AA;rw[if_pos hso]
 have hrn:0≤s.refs∧0≤s.nums:=by
  unfold Ad at hso;simp only[z_b,z_d] at hso;omega
 unfold Am;rw[if_pos h0];congr 1;unfold Sm.put;obtain⟨z',rfl⟩:∃k,z = k + 2:=⟨z - 2,ω⟩;have e1:s.refs.toNat + s.nums.toNat = z':=ω
 have l1:(w.take n).length = n:=by simp;omega
 have e2:w.take n ++ List.replicate (z' + 2) 0 ++ w.drop (n + (z' + 2)) = w.take n ++ (0 :: 0 :: (List.replicate z' 0 ++ w.drop (n + (z' + 2)))):=by simp[List.replicate_succ]
 rw[e1,e2,RV,Su _ _ ω,l1,Nat.sub_self,List.set_cons_zero,Su _ _ ω,l1,Nat.add_sub_cancel_left];simp[Nat.add_comm,Nat.add_left_comm]
theorem J0 {R:RM} {wv:Value} {w:List Int} (a:Int) (s:Shp) (h:Ai R wv w) (hl:w.length < 1000000) :
  Fn P EW [wv,I a,eSh s] R [] (λv R' A=>R' = R∧QMk (Am w a s) v A):=by
 refine Hk λF=>?_
 refine z_3 ?_;obtain⟨wa,wc,hwv,hr⟩:=Fz.reads (D:=[]) h;refine ja λb1=>?_
 rw[show cl (eSh s) = [I s.refs,I s.nums] from rfl];refine jla (l:=[I s.refs,I s.nums]) σ rfl (jp (GO s) ?_);rw[hwv];refine jp (NW wa w.length wc a (AA s) ω) (jif (λh0=>?_) (λh0=>?_))
 ·have h0:fits w.length a (AA s) = false:=by simpa using h0
  refine AV (A:=[]) (RM.le.refl R) ⟨rfl,?_⟩;have:Am w a s = ([],false):=by unfold Am;rw[h0];rfl
  rw[this];exact⟨rfl,rfl⟩
 have h0:fits w.length a (AA s) = true:=by simpa using h0
 obtain⟨a0,a1,a2,a3⟩:=Dc h0;have hso:Ad s = true:=by
  unfold AA at a2;split at a2
  ·assumption
  ·omega
 have hsz:AA s = 2 + s.refs + s.nums:=by unfold AA;rw[if_pos hso]
 have hrn:0≤s.refs∧0≤s.nums:=by
  unfold Ad at hso;simp only[z_b,z_d] at hso;omega
 obtain⟨n,rfl⟩:∃n:Nat,a = n:=⟨a.toNat,ω⟩;obtain⟨z,hz⟩:∃z:Nat,AA s = z:=⟨(AA s).toNat,ω⟩;have em:=FH h0 hso hz;rw[hz] at a1 a2 a3 ⊢;have fin:∀(b c:Nat) (sp:List Value) (E:Chs) (K:Value→M),w.length≤c→sp.length = c - w.length→Sf E F→True:=λ_ _ _ _ _ _ _ _=>trivial
 clear fin;refine jbs (cs:=[]) rfl rfl λb2=>?_
 have hl0:w.length≠0:=ω
 have rest:∀(b c:Nat) (sp:List Value) (E:Chs),w.length≤c→sp.length = c - w.length→At E b1 (C L5 [I s.refs,I s.nums])→Sf E F→
   J R ((b,C AW (w.map I ++ sp)) :: E) (CUT [1,5,9] (λJe8=>CUT [1,5,9] (λJe14=>LP [1,5,8,9,10] (λKe15 e15=>BO .lss (e15 10) (e15 8) λx16=>IF x16 (BO .add (e15 1) (e15 10) λx17=>IA 1 (e15 9) x17 λx18=>ST 1 x18 (I 0)<|BO .add (e15 10) (I 1) λx19=>Ke15 [(e15 1),(e15 5),(e15 8),(e15 9),x19]) (Je14 [(e15 1),(e15 5),(e15 9)])) [I n,Pt b1,I z,S0 b w.length c,(I 0)]) λe14=>Je8 [(e14 1),(e14 5),(e14 9)]) λe8=>IA 1 (e8 9) (e8 1) λx9=>ST 1 x9 (e8 1)<|BO .add (e8 1) (I 1) λx10=>LA 2 (e8 5) λx11=>CA P 109 [x11] λx12=>IA 1 (e8 9) x10 λx13=>ST 1 x13 x12<|Fr R F (λv R' A=>R' = R∧QMk (Am w n s) v A) (.tuple #[(e8 9),(.bool true)])):=by
  intro b c sp E hc hsp ea ef;refine Aw (λvs R' D'=>R' = R∧∃cur:List Int,cur = w.take n ++ List.replicate z 0 ++ w.drop (n + z)∧D' = (b,C AW (cur.map I ++ sp)) :: E∧vs = [I n,Pt b1,S0 b w.length c]) (λK hK=>?_) ?_
  ·refine Aw (λvs R' D'=>R' = R∧∃cur:List Int,cur = w.take n ++ List.replicate z 0 ++ w.drop (n + z)∧D' = (b,C AW (cur.map I ++ sp)) :: E∧vs = [I n,Pt b1,S0 b w.length c]) (λK2 hK2=>?_) ?_;rotate_left
   ·rintro e R1 D1 ⟨hR,cur,hcur,hD,he⟩;refine z_W ?_;clear hD;exact hK _ _ _ ⟨hR,cur,hcur,rfl,rfl⟩
   refine jlp (λm vs R' D'=>R' = R∧∃(k:Nat) (cur:List Int),k≤z∧cur = w.take n ++ List.replicate k 0 ++ w.drop (n + k)∧D' = (b,C AW (cur.map I ++ sp)) :: E∧vs = [I n,Pt b1,I z,S0 b w.length c,I k]∧m = z - k)
    (n:=z) ⟨rfl,0,w,ω,σ,rfl,rfl,ω⟩ ?_
   rintro m e R1 D1 K3 ⟨hR,k,cur,hk,hcur,hD,he,hm⟩ hK3;subst hR;refine z_W ?_;clear hD;have hcl:cur.length = w.length:=by rw[hcur];simp;omega
   refine jlt (jif (λhc=>?_) (λhc=>?_));rotate_left
   ·have hc:k = z:=by have:=z_g hc;omega
    subst hc;exact hK2 _ _ _ ⟨rfl,cur,hcur,rfl,rfl⟩
   have hc:k < z:=by have:=z_f hc;omega
   refine jad ?_;rw[show (n:Int) + k = ((n + k:Nat):Int) by omega];refine E5 ω (jsi ω (jad (hK3 (z - (k + 1)) _ _ _ ω ⟨rfl,k + 1,cur.set (n + k) 0,ω,by rw[hcur];exact N1 ω,rfl,rfl,rfl⟩)))
  rintro e R1 D1 ⟨hR,cur,hcur,hD,he⟩;subst hR;refine z_W ?_;clear hD;have hcl:cur.length = w.length:=by rw[hcur];simp;omega
  refine E5 ω (jsi ω (jad (jla (l:=[I s.refs,I s.nums]) σ rfl (jp (JR s) ?_))));rw[show (n:Int) + 1 = ((n + 1:Nat):Int) by omega];refine E5 ω (jsi (by rw[Sn];omega) (AV (A:=[(b,C AW (((cur.set n n).set (n + 1) (Au s)).map I ++ sp))]) (RM.le.refl R1) ⟨rfl,?_⟩));rw[em,hcur];refine⟨_,⟨b,c,sp,?_,?_,?_,rfl⟩,rfl⟩
  all_goals simp only[Sn,← hcur,hcl]
  ·exact hc
  ·exact hsp
 refine PC (new:=w.map I) ?_ δ ω (λ_=>rfl) (λh0=>?_) (λb' c hc=>?_)
 ·intro h' hs';exact hr h' (St.drop (by simpa using hs'))
 ·omega
 ·exact rest b' c _ _ hc (by rw[BI (w:=1) (by intro x hx;rw[(SG.1 hx).2];rfl)];simp) inferInstance inferInstance
theorem jnc {R:RM} {D:Chs} {b o:Nat} {k:Value→M} (H:J R D (k (.pointer (some ⟨b,o,none⟩)))):J R D (NC (.pointer (some ⟨b,o,none⟩)) k):=H
end Go.Lf
end
section
namespace Go.Lf
open Go Sm
theorem Cr {R:RM} {D:Chs} {a:M} (h:J R D a):J R D (ALL [a]):=h
theorem EM {R:RM} {D:Chs} {a b:M} {r:List M} (h:J R D a) (h2:J R D (ALL (b :: r))):J R D (ALL (a :: b :: r)):=λh' hs=>⟨h h' hs,h2 h' hs⟩
def eNw (w:Value) (tv:Value) (m:Value) (thv:Value):List Value:=[w,tv,m,I 0,.bool false,.bool false,.bool false,I 0,thv,SN,SN,I 0,I 0]
def BF (c:Cfg):List Int:=(Am (List.replicate (c.A8.toNat * 16) 0) 16 By).1
theorem KH {c:Cfg} (h:B9 c = true):(Am (List.replicate (c.A8.toNat * 16) 0) 16 By).2 = true∧(BF c).length = c.A8.toNat * 16:=by
 unfold B9 at h;simp only[z_b,z_d] at h;have hf:fits (c.A8.toNat * 16) 16 (AA By) = true:=by
  have e:AA By = 8:=δ
  rw[e];unfold fits Ag AI;simp only[z_b,z_d,beq_iff_eq];refine⟨⟨⟨⟨⟨⟨⟨ω,ω⟩,ω⟩,ω⟩,ω⟩,ω⟩,ω⟩,δ⟩
 unfold BF Am;rw[S7,if_pos hf];refine⟨rfl,?_⟩;unfold Sm.put;have:By.refs.toNat + By.nums.toNat = 6:=δ
 simp only[Rc,Rk,S7,SR,Rr,TC,this];omega
theorem KE {R:RM} {c:Cfg} (hc:B9 c = true) :
  Fn P Cd [.agg #[I c.A8,I c.A9,I c.AH]] R [] (λv R' A=>∃bw cw wsp bt ct tsp bm thv,(BF c).length≤cw∧(AC c.A8).length≤ct∧Ths R' thv (List.replicate c.A9.toNat ⟨[16],0,false,0⟩)∧
   A = [(bw,C AW ((BF c).map I ++ wsp)),(bt,C AK (Aq eRg (Ak (AC c.A8) 1 ⟨3,-1,24,24,0⟩) ++ tsp)),(bm,C Av ((List.replicate (c.A8.toNat * 16) false).map Value.bool))]∧
   v = .tuple #[.agg (eNw (S0 bw (BF c).length cw) (S0 bt (AC c.A8).length ct) (S0 bm (c.A8.toNat * 16) (c.A8.toNat * 16)) thv).toArray,.bool true]):=by
 refine Fb λF=>?_
 refine z_1 ?_;have hcc:=hc;unfold B9 at hc;simp only[z_b,z_d] at hc;refine ja λb1=>?_
 rw[show cl (.agg #[I c.A8,I c.A9,I c.AH]) = [I c.A8,I c.A9,I c.AH] from rfl];refine ja λb2=>?_
 refine jla (l:=[I c.A8,I c.A9,I c.AH]) σ rfl ?_;refine jp (HY c) ?_;rw[hcc];refine C9 (jfo (jl (v:=I c.A8) rfl ?_));refine jmk (Kh c.A8) ?_;intro v N hq;unfold Oj at hq;have htl:(AC c.A8).length = c.A8.toNat:=by
  unfold AC;rw[if_neg ω];simp;omega
 rw[if_neg (by intro hn;rw[hn] at htl;simp at htl;omega)] at hq;obtain⟨sv,⟨bt,ct,tsp,hct,rfl,rfl⟩,rfl⟩:=hq;refine jex rfl (jex rfl ?_);have e16:(c.A8 * 16).toNat = c.A8.toNat * 16:=ω
 refine Aw (λvs R' D'=>R' = R∧∃bw bm b6,D' = (b6,C AO (eNw (S0 bw (c.A8.toNat * 16) (c.A8.toNat * 16)) (S0 bt (AC c.A8).length ct) (S0 bm (c.A8.toNat * 16) (c.A8.toNat * 16)) (SN))) ::
   (bw,C AW ((List.replicate (c.A8.toNat * 16) [I 0]).flatten)) :: (bm,C Av ((List.replicate (c.A8.toNat * 16) [Value.bool false]).flatten)) ::
   (bt,C AK (Aq eRg (AC c.A8) ++ tsp)) :: (b2,C AO (cl z28)) :: (b1,C 33 [I c.A8,I c.A9,I c.AH]) :: F∧vs = [Pt b1,Pt b2,Pt b6]) (λK hK=>?_) ?_
 ·refine jfo (jl (v:=I c.A8) rfl (Fw ⟨ω,ω⟩ (jfo (jl (v:=I c.A8) rfl (Fw ⟨ω,ω⟩ ?_)))));refine EM ?_ (EM ?_ (Cr ?_))
  ·refine jms ω ω ω λbw=>?_
   rw[e16];refine As (jl (v:=I c.A8) rfl jev) ?_;refine EM ?_ (Cr ?_)
   ·refine jms ω ω ω λbm=>?_
    rw[e16];refine jbd (cs:=(eNw (S0 bw (c.A8.toNat * 16) (c.A8.toNat * 16)) (S0 bt (AC c.A8).length ct) (S0 bm (c.A8.toNat * 16) (c.A8.toNat * 16)) (SN))) rfl rfl ?_;refine ja λb6=>?_
    refine jS ((eNw (S0 bw (c.A8.toNat * 16) (c.A8.toNat * 16)) (S0 bt (AC c.A8).length ct) (S0 bm (c.A8.toNat * 16) (c.A8.toNat * 16)) (SN))) ?_;refine Ab [(b6,C AO (eNw (S0 bw (c.A8.toNat * 16) (c.A8.toNat * 16)) (S0 bt (AC c.A8).length ct) (S0 bm (c.A8.toNat * 16) (c.A8.toNat * 16)) (SN))),(bw,C AW ((List.replicate (c.A8.toNat * 16) [I 0]).flatten)),(bm,C Av ((List.replicate (c.A8.toNat * 16) [Value.bool false]).flatten))] (G:=[(bt,C AK (Aq eRg (AC c.A8) ++ tsp))] ++ (b2,C AO (cl z28)) :: (b1,C 33 [I c.A8,I c.A9,I c.AH]) :: ([] ++ F)) ?_;exact hK _ _ _ ⟨rfl,bw,bm,b6,rfl,rfl⟩
   ·refine ja λb6=>?_
    refine As (jl (v:=I c.A8) rfl jev) ?_;refine jms ω ω ω λbm=>?_
    rw[e16];refine jbd (cs:=(eNw (S0 bw (c.A8.toNat * 16) (c.A8.toNat * 16)) (S0 bt (AC c.A8).length ct) (S0 bm (c.A8.toNat * 16) (c.A8.toNat * 16)) (SN))) rfl rfl ?_;refine jS ((eNw (S0 bw (c.A8.toNat * 16) (c.A8.toNat * 16)) (S0 bt (AC c.A8).length ct) (S0 bm (c.A8.toNat * 16) (c.A8.toNat * 16)) (SN))) ?_;refine Ab [(b6,C AO (eNw (S0 bw (c.A8.toNat * 16) (c.A8.toNat * 16)) (S0 bt (AC c.A8).length ct) (S0 bm (c.A8.toNat * 16) (c.A8.toNat * 16)) (SN))),(bw,C AW ((List.replicate (c.A8.toNat * 16) [I 0]).flatten)),(bm,C Av ((List.replicate (c.A8.toNat * 16) [Value.bool false]).flatten))] (G:=[(bt,C AK (Aq eRg (AC c.A8) ++ tsp))] ++ (b2,C AO (cl z28)) :: (b1,C 33 [I c.A8,I c.A9,I c.AH]) :: ([] ++ F)) ?_;exact hK _ _ _ ⟨rfl,bw,bm,b6,rfl,rfl⟩
  ·refine jms ω ω ω λbm=>?_
   rw[e16];refine As (jl (v:=I c.A8) rfl jev) ?_;refine EM ?_ (Cr ?_)
   ·refine jms ω ω ω λbw=>?_
    rw[e16];refine jbd (cs:=(eNw (S0 bw (c.A8.toNat * 16) (c.A8.toNat * 16)) (S0 bt (AC c.A8).length ct) (S0 bm (c.A8.toNat * 16) (c.A8.toNat * 16)) (SN))) rfl rfl ?_;refine ja λb6=>?_
    refine jS ((eNw (S0 bw (c.A8.toNat * 16) (c.A8.toNat * 16)) (S0 bt (AC c.A8).length ct) (S0 bm (c.A8.toNat * 16) (c.A8.toNat * 16)) (SN))) ?_;refine Ab [(b6,C AO (eNw (S0 bw (c.A8.toNat * 16) (c.A8.toNat * 16)) (S0 bt (AC c.A8).length ct) (S0 bm (c.A8.toNat * 16) (c.A8.toNat * 16)) (SN))),(bw,C AW ((List.replicate (c.A8.toNat * 16) [I 0]).flatten)),(bm,C Av ((List.replicate (c.A8.toNat * 16) [Value.bool false]).flatten))] (G:=[(bt,C AK (Aq eRg (AC c.A8) ++ tsp))] ++ (b2,C AO (cl z28)) :: (b1,C 33 [I c.A8,I c.A9,I c.AH]) :: ([] ++ F)) ?_;exact hK _ _ _ ⟨rfl,bw,bm,b6,rfl,rfl⟩
   ·refine ja λb6=>?_
    refine As (jl (v:=I c.A8) rfl jev) ?_;refine jms ω ω ω λbw=>?_
    rw[e16];refine jbd (cs:=(eNw (S0 bw (c.A8.toNat * 16) (c.A8.toNat * 16)) (S0 bt (AC c.A8).length ct) (S0 bm (c.A8.toNat * 16) (c.A8.toNat * 16)) (SN))) rfl rfl ?_;refine jS ((eNw (S0 bw (c.A8.toNat * 16) (c.A8.toNat * 16)) (S0 bt (AC c.A8).length ct) (S0 bm (c.A8.toNat * 16) (c.A8.toNat * 16)) (SN))) ?_;refine Ab [(b6,C AO (eNw (S0 bw (c.A8.toNat * 16) (c.A8.toNat * 16)) (S0 bt (AC c.A8).length ct) (S0 bm (c.A8.toNat * 16) (c.A8.toNat * 16)) (SN))),(bw,C AW ((List.replicate (c.A8.toNat * 16) [I 0]).flatten)),(bm,C Av ((List.replicate (c.A8.toNat * 16) [Value.bool false]).flatten))] (G:=[(bt,C AK (Aq eRg (AC c.A8) ++ tsp))] ++ (b2,C AO (cl z28)) :: (b1,C 33 [I c.A8,I c.A9,I c.AH]) :: ([] ++ F)) ?_;exact hK _ _ _ ⟨rfl,bw,bm,b6,rfl,rfl⟩
  ·refine ja λb6=>?_
   refine As (jl (v:=I c.A8) rfl jev) (As (jl (v:=I c.A8) rfl jev) ?_);refine EM ?_ (Cr ?_)
   ·refine jms ω ω ω λbw=>?_
    rw[e16];refine As (jl (v:=I c.A8) rfl jev) ?_;refine jms ω ω ω λbm=>?_
    rw[e16];refine jbd (cs:=(eNw (S0 bw (c.A8.toNat * 16) (c.A8.toNat * 16)) (S0 bt (AC c.A8).length ct) (S0 bm (c.A8.toNat * 16) (c.A8.toNat * 16)) (SN))) rfl rfl ?_;refine jS ((eNw (S0 bw (c.A8.toNat * 16) (c.A8.toNat * 16)) (S0 bt (AC c.A8).length ct) (S0 bm (c.A8.toNat * 16) (c.A8.toNat * 16)) (SN))) ?_;refine Ab [(b6,C AO (eNw (S0 bw (c.A8.toNat * 16) (c.A8.toNat * 16)) (S0 bt (AC c.A8).length ct) (S0 bm (c.A8.toNat * 16) (c.A8.toNat * 16)) (SN))),(bw,C AW ((List.replicate (c.A8.toNat * 16) [I 0]).flatten)),(bm,C Av ((List.replicate (c.A8.toNat * 16) [Value.bool false]).flatten))] (G:=[(bt,C AK (Aq eRg (AC c.A8) ++ tsp))] ++ (b2,C AO (cl z28)) :: (b1,C 33 [I c.A8,I c.A9,I c.AH]) :: ([] ++ F)) ?_;exact hK _ _ _ ⟨rfl,bw,bm,b6,rfl,rfl⟩
   ·refine jms ω ω ω λbm=>?_
    rw[e16];refine As (jl (v:=I c.A8) rfl jev) ?_;refine jms ω ω ω λbw=>?_
    rw[e16];refine jbd (cs:=(eNw (S0 bw (c.A8.toNat * 16) (c.A8.toNat * 16)) (S0 bt (AC c.A8).length ct) (S0 bm (c.A8.toNat * 16) (c.A8.toNat * 16)) (SN))) rfl rfl ?_;refine jS ((eNw (S0 bw (c.A8.toNat * 16) (c.A8.toNat * 16)) (S0 bt (AC c.A8).length ct) (S0 bm (c.A8.toNat * 16) (c.A8.toNat * 16)) (SN))) ?_;refine Ab [(b6,C AO (eNw (S0 bw (c.A8.toNat * 16) (c.A8.toNat * 16)) (S0 bt (AC c.A8).length ct) (S0 bm (c.A8.toNat * 16) (c.A8.toNat * 16)) (SN))),(bw,C AW ((List.replicate (c.A8.toNat * 16) [I 0]).flatten)),(bm,C Av ((List.replicate (c.A8.toNat * 16) [Value.bool false]).flatten))] (G:=[(bt,C AK (Aq eRg (AC c.A8) ++ tsp))] ++ (b2,C AO (cl z28)) :: (b1,C 33 [I c.A8,I c.A9,I c.AH]) :: ([] ++ F)) ?_;exact hK _ _ _ ⟨rfl,bw,bm,b6,rfl,rfl⟩
 rintro e Rz D1 ⟨hR,bw0,bm,b6,hD,he⟩;subst hR;refine z_W ?_;have htk:(List.replicate (c.A8.toNat * 16) [I 0]).flatten = (List.replicate (c.A8.toNat * 16) (0:Int)).map I ++ []:=by simp[SX]
 have hmk:(List.replicate (c.A8.toNat * 16) [Value.bool false]).flatten = (List.replicate (c.A8.toNat * 16) false).map Value.bool:=by simp[SX]
 rw[htk,hmk];refine AJ (b:=bw0) λR2 hR2 hb0=>?_
 have hw0:Ai R2 (S0 bw0 (c.A8.toNat * 16) (c.A8.toNat * 16)) (List.replicate (c.A8.toNat * 16) 0):=by
  have:=IV (c:=c.A8.toNat * 16) hb0 σ;rw[S7] at this;exact this
 refine jbd (cs:=[I 4,I 2]) rfl rfl (ja λb7=>?_);refine js (cs':=[I 4,I 2]) rfl rfl σ rfl ?_;refine jfo (jl (v:=S0 bw0 (c.A8.toNat * 16) (c.A8.toNat * 16)) rfl ?_);refine jla (l:=[I 4,I 2]) σ rfl ?_;refine jc (A:=[]) (J0 16 By hw0 (by rw[S7];omega)) ?_;rintro v3 R3 A3 hR3 ⟨hRR,hq⟩;subst hRR;obtain⟨sf1,sf2⟩:=KH hcc;unfold QMk at hq;rw[if_pos sf1] at hq;obtain⟨sv,⟨bw,cw,wsp,hcw,hwsp,rfl,rfl⟩,rfl⟩:=hq;refine jex rfl (jex rfl ?_);refine jfo (jS (eNw (S0 bw (BF c).length cw) (S0 bt (AC c.A8).length ct) (S0 bm (c.A8.toNat * 16) (c.A8.toNat * 16)) (SN)) ?_);refine jla (l:=[I 4,I 2]) σ rfl (jp (GO By) (Lp ⟨δ,δ⟩ ?_));rw[show (16:Int) + AA By = 24 by decide];refine jfo (jl (v:=S0 bt (AC c.A8).length ct) rfl ?_);refine jbd (cs:=eRg ⟨3,-1,24,24,0⟩) rfl rfl ?_;refine E5 (r:=1) ω (M7 (t:=AC c.A8) (sp:=tsp) (x:=⟨3,-1,24,24,0⟩) ω ?_);refine Bq (D':=(bw,C AW ((BF c).map I ++ wsp)) :: (b7,C 60 [I 4,I 2]) :: (b6,C AO (eNw (S0 bw (BF c).length cw) (S0 bt (AC c.A8).length ct) (S0 bm (c.A8.toNat * 16) (c.A8.toNat * 16)) (SN))) :: (bm,C Av ((List.replicate (c.A8.toNat * 16) false).map Value.bool)) :: (bt,C AK (Aq eRg (Ak (AC c.A8) 1 ⟨3,-1,24,24,0⟩) ++ tsp)) :: (b2,C AO (cl z28)) :: (b1,C 33 [I c.A8,I c.A9,I c.AH]) :: F) (SJ _) ?_;refine Ab [(b6,C AO (eNw (S0 bw (BF c).length cw) (S0 bt (AC c.A8).length ct) (S0 bm (c.A8.toNat * 16) (c.A8.toNat * 16)) (SN))),(b1,C 33 [I c.A8,I c.A9,I c.AH]),(b2,C AO (cl z28)),(bw,C AW ((BF c).map I ++ wsp)),(bt,C AK (Aq eRg (Ak (AC c.A8) 1 ⟨3,-1,24,24,0⟩) ++ tsp)),(bm,C Av ((List.replicate (c.A8.toNat * 16) false).map Value.bool))] (G:=F) ?_;generalize hE:(b1,C 33 [I c.A8,I c.A9,I c.AH]) :: (b2,C AO (cl z28)) :: ([(bw,C AW ((BF c).map I ++ wsp)),(bt,C AK (Aq eRg (Ak (AC c.A8) 1 ⟨3,-1,24,24,0⟩) ++ tsp)),(bm,C Av ((List.replicate (c.A8.toNat * 16) false).map Value.bool))] ++ F) = E;have ea1:At E b1 (C 33 [I c.A8,I c.A9,I c.AH]):=by rw[← hE];exact inferInstance
 refine Bq (D':=(b6,C AO (eNw (S0 bw (BF c).length cw) (S0 bt (AC c.A8).length ct) (S0 bm (c.A8.toNat * 16) (c.A8.toNat * 16)) (SN))) :: E) (by rw[← hE];exact SJ _) ?_;obtain⟨n,hn⟩:∃n:Nat,c.A9 = n:=⟨c.A9.toNat,ω⟩;refine Aw (λvs R' D'=>Rz.le R'∧∃rows v A,Rw (CR R') rows (List.replicate n ⟨[16],0,false,0⟩)∧SW 83 4 rows v A∧D' = A ++ (b6,C AO (eNw (S0 bw (BF c).length cw) (S0 bt (AC c.A8).length ct) (S0 bm (c.A8.toNat * 16) (c.A8.toNat * 16)) v)) :: E∧vs = [Pt b2,Pt b6]) (λK hK=>?_) ?_
 ·refine Aw (λvs R' D'=>Rz.le R'∧∃rows v A,Rw (CR R') rows (List.replicate n ⟨[16],0,false,0⟩)∧SW 83 4 rows v A∧D' = A ++ (b6,C AO (eNw (S0 bw (BF c).length cw) (S0 bt (AC c.A8).length ct) (S0 bm (c.A8.toNat * 16) (c.A8.toNat * 16)) v)) :: E∧vs = [Pt b2,Pt b6]) (λK2 hK2=>?_) ?_;rotate_left
  ·rintro e R1 D1 ⟨hR,rows,v,A,hrw,so,hD,he⟩;refine z_W ?_;exact hK _ _ _ ⟨hR,rows,v,A,hrw,so,rfl,rfl⟩
  refine jlp (λm vs R' D'=>Rz.le R'∧∃(i:Nat) (rows:List (List Value)) (v:Value) (A:Chs),i≤n∧Rw (CR R') rows (List.replicate i ⟨[16],0,false,0⟩)∧SW 83 4 rows v A∧D' = A ++ (b6,C AO (eNw (S0 bw (BF c).length cw) (S0 bt (AC c.A8).length ct) (S0 bm (c.A8.toNat * 16) (c.A8.toNat * 16)) v)) :: E∧vs = [Pt b1,Pt b2,Pt b6,I i]∧m = n - i)
   (n:=n) ⟨hR2,0,[],SN,[],ω,Rw.nil,.inl ⟨rfl,rfl,rfl⟩,rfl,rfl,ω⟩ ?_
  rintro m e R1 D1 K3 ⟨hR,i,rows,v,A,hi,hrw,so,hD,he,hm⟩ hK3;refine z_W ?_;refine jfo (jl (v:=I c.A9) rfl (jlt (jif (λhd=>?_) (λhd=>?_))));rotate_left
  ·have hd:i = n:=by have:=z_g hd;omega
   subst hd;exact hK2 _ _ _ ⟨hR,rows,v,A,hrw,so,rfl,rfl⟩
  have hd:i < n:=by have:=z_f hd;omega
  obtain⟨sa,sc,hsl⟩:=so.sl;subst hsl;refine jfo (jl (v:=.slice sa rows.length sc) rfl ?_);refine jbs (cs:=[I 16]) rfl rfl λb8=>?_
  refine AJ (b:=b8) λR3 hR3 hb8=>?_
  have hv2:Ai R3 (S0 b8 1 1) [16]:=IV (l:=[16]) (sp:=[]) (c:=1) hb8 σ;refine jbd (cs:=[S0 b8 1 1,I 0,.bool false,I 0]) rfl rfl ?_;refine jbs (cs:=[S0 b8 1 1,I 0,.bool false,I 0]) rfl rfl λb9=>?_
  refine Ab A (G:=(b9,C 83 [S0 b8 1 1,I 0,.bool false,I 0]) :: (b6,C AO (eNw (S0 bw (BF c).length cw) (S0 bt (AC c.A8).length ct) (S0 bm (c.A8.toNat * 16) (c.A8.toNat * 16)) (.slice sa rows.length sc))) :: E) ?_;have hx:BB R3 (A ++ ((b9,C 83 [S0 b8 1 1,I 0,.bool false,I 0]) :: (b6,C AO (eNw (S0 bw (BF c).length cw) (S0 bt (AC c.A8).length ct) (S0 bm (c.A8.toNat * 16) (c.A8.toNat * 16)) (.slice sa rows.length sc))) :: E)) (some ⟨b9,0,none⟩) (1 * 4) [[S0 b8 1 1,I 0,.bool false,I 0]].flatten:=BB.held (t:=83) (cs:=[S0 b8 1 1,I 0,.bool false,I 0]) (o:=0) (n:=1 * 4) (z_n 4);have hrl:=hrw.1;rw[S7] at hrl;refine jaw so (hrw.all λ_ _=>CR.len) (by intro r hr;rw[Ri.1 hr];rfl) rfl rfl rfl δ (by rw[Ss];omega) hx λv' A' so'=>?_
  obtain⟨sa',sc',hsl'⟩:=so'.sl;subst hsl';refine jfo (jS (eNw (S0 bw (BF c).length cw) (S0 bt (AC c.A8).length ct) (S0 bm (c.A8.toNat * 16) (c.A8.toNat * 16)) (.slice sa' (rows ++ [[S0 b8 1 1,I 0,.bool false,I 0]]).length sc')) ?_);refine jad ?_;refine Ab A' (G:=(b6,C AO (eNw (S0 bw (BF c).length cw) (S0 bt (AC c.A8).length ct) (S0 bm (c.A8.toNat * 16) (c.A8.toNat * 16)) (.slice sa' (rows ++ [[S0 b8 1 1,I 0,.bool false,I 0]]).length sc'))) :: E) ?_;refine hK3 (n - (i + 1)) _ _ _ ω ⟨hR.trans hR3,i + 1,_,_,A',ω,?_,so',rfl,rfl,rfl⟩;rw[TN];exact (hrw.mono λ_ _=>CR.le hR3).app (Rw.one ⟨_,rfl,hv2⟩)
 rintro e R1 D1 ⟨hR,rows,v,A,hrw,so,hD,he⟩;refine z_W ?_;obtain⟨sa,sc,hsl⟩:=so.sl;subst hsl;refine jfw so (hrw.all λ_ _=>CR.len) λR3 hR3 hfz=>?_
 subst hE;refine jla (l:=eNw (S0 bw (BF c).length cw) (S0 bt (AC c.A8).length ct) (S0 bm (c.A8.toNat * 16) (c.A8.toNat * 16)) (.slice sa rows.length sc)) (by exact z_n 13) rfl ?_;refine jS (eNw (S0 bw (BF c).length cw) (S0 bt (AC c.A8).length ct) (S0 bm (c.A8.toNat * 16) (c.A8.toNat * 16)) (.slice sa rows.length sc)) ?_;refine jla (l:=eNw (S0 bw (BF c).length cw) (S0 bt (AC c.A8).length ct) (S0 bm (c.A8.toNat * 16) (c.A8.toNat * 16)) (.slice sa rows.length sc)) (by exact z_n 13) rfl ?_;refine AV (A:=[(bw,C AW ((BF c).map I ++ wsp)),(bt,C AK (Aq eRg (Ak (AC c.A8) 1 ⟨3,-1,24,24,0⟩) ++ tsp)),(bm,C Av ((List.replicate (c.A8.toNat * 16) false).map Value.bool))]) (hR.trans hR3) ⟨bw,cw,wsp,bt,ct,tsp,bm,.slice sa rows.length sc,hcw,hct,⟨rows,?_,hfz⟩,rfl,rfl⟩;rw[hn,RV];exact hrw.mono λ_ _=>CR.le hR3
theorem Pf (x:Int) (w:World):(Go.convert 5 3 (.int .u8 x):Sem Value).run P w = .ok (.int .i64 (IntKind.i64.wrap x)) w:=by
 kernel_rfl
def Bsl (R:RM) (v:Value) (n:Nat):Prop:=∃a cap,v = .slice a n cap∧n≤cap∧(n = 0∨∃b o,a = some ⟨b,o,none⟩∧∀i,i < n→∃t cs fz x,R b = some (.cells cs t fz)∧cs[o + i]? = some (.int .u8 x)∧0≤x∧x < 256)
theorem Bsl.le {R R' : RM} {v:Value} {n:Nat} (h:R.le R') (H:Bsl R v n):Bsl R' v n:=by
 obtain⟨a,cap,h1,h2,h3 | ⟨b,o,h3,h4⟩⟩:=H
 ·exact⟨a,cap,h1,h2,.inl h3⟩
 ·exact⟨a,cap,h1,h2,.inr ⟨b,o,h3,λi hi=>by obtain⟨t,cs,fz,x,q1,q2⟩:=h4 i hi;exact⟨t,cs,fz,x,h _ _ q1,q2⟩⟩⟩
section rules
variable {R:RM} {D:Chs} {k:Value→M}
theorem jcv {x:Int} (h:inR x) (H:J R D (k (I x))):J R D (X P (Go.convert 5 3 (.int .u8 x)) k):=by
 intro h' hs w hw;rw[Pf,Ct h];subst hw;exact⟨Aa.refl _,H _ hs⟩
theorem Qz {x y:Int} (hx:0≤x∧x < 4611686018427387904) (hy:0≤y∧y < 4611686018427387904) (H:∀z:Int,0≤z→z < 4611686018427387904→J R D (k (I z))):J R D (BO .xor (I x) (I y) k):=by
 have e:BO .xor (I x) (I y) k = k (.int .i64 (IntKind.i64.wrap (BitVec.ofInt 64 x ^^^ BitVec.ofInt 64 y).toNat)):=rfl;have h1:(BitVec.ofInt 64 x ^^^ BitVec.ofInt 64 y).toNat < 2 ^ 62:=by
  rw[BitVec.toNat_xor];have hb:∀z:Int,0≤z∧z < 4611686018427387904→(BitVec.ofInt 64 z).toNat < 2 ^ 62:=λz hz=>by
   rw[BitVec.toNat_ofInt];omega
  exact Nat.xor_lt_two_pow (hb x hx) (hb y hy)
 rw[e,Ct ⟨ω,ω⟩];exact H _ ω ω
theorem Nj {v:Value} {n:Nat} {i:Int} (h:Bsl R v n) (h0:0≤i) (h1:i < n)
  (H:∀(q:Value) (x:Int),0≤x→x < 256→(∀(D' : Chs) (k' : Value→M),J R D' (k' (.int .u8 x))→J R D' (L1 q k'))→J R D (k q)):J R D (IA 1 v (I i) k):=by
 obtain⟨a,cap,rfl,hn,h2 | ⟨b,o,rfl,hc⟩⟩:=h
 ·omega
 ·obtain⟨t,cs,fz,x,hb,hx,x0,x1⟩:=hc i.toNat ω;refine jia h0 ω (H _ x x0 x1 λD' k' hk=>?_);rw[TQ];intro h hs;exact⟨.int .u8 x,by simp only[Go.Lf.hc,hs.rd b _ hb];exact hx,hk h hs⟩
end rules
def Byt (R:RM) (v:Value):Prop:=∃a n cap,v = .slice a n cap∧Bsl R v n∧n≤1000000
theorem Byt.le {R R' : RM} {v:Value} (h:R.le R') (H:Byt R v):Byt R' v:=by
 obtain⟨a,n,cap,h1,h2,h3⟩:=H;exact⟨a,n,cap,h1,h2.le h,h3⟩
@[reducible] def rdO (v:Value) (m:Int):Obj:=C 118 [v,I m]
theorem PI {R:RM} {rb:Nat} {v:Value} {n m:Int} (hb:Byt R v) (hm:0≤m∧m < 1000000000) :
  Fn P DH [Pt rb,I n] R [(rb,rdO v m)] (λv' R' A=>R' = R∧A = [(rb,rdO v (m + 1))]∧∃x,v' = I x∧0≤x∧(x < n∨x = 0)):=by
 refine Hs λF=>?_
 refine z_2 ?_;obtain⟨a,l,cap,rfl,hf,hl⟩:=hb;refine jl rfl (jad (js rfl rfl σ rfl (jor [Pt rb,I n] (decide (n < 1) || ((l:Int) == 0)) (λK' hK'=>?_) (λe c u ho he=>?_))))
 ·refine jlt (BT (λh1=>?_) (λh1=>?_))
  ·refine jl rfl (jln (jeq (hK' _ _ _ (h1▸AY) (by rw[h1,Re]))))
  ·exact hK' _ _ _ (h1▸Ao) (by rw[h1,Rm])
 refine z_V ?_;rw[ho];have fin:∀x:Int,0≤x→(x < n∨x = 0)→J R ((rb,C 118 [.slice a l cap,I (m + 1)]) :: F) (Fr R F (λv' R' A=>R' = R∧A = [(rb,rdO (.slice a l cap) (m + 1))]∧∃x,v' = I x∧0≤x∧(x < n∨x = 0)) (I x)):=λx x0 x1=>
  AV (RM.le.refl R) ⟨rfl,rfl,x,rfl,x0,x1⟩
 refine jif (λh0=>fin 0 ω (.inr rfl)) (λh0=>?_);simp only[SV,decide_eq_false_iff_not,beq_eq_false_iff_ne] at h0;obtain⟨n1,l1⟩:=h0;have tm:∀x y:Int,0≤x→0 < y→0≤x.tmod y∧x.tmod y < y:=λx y hx hy=>⟨Int.tmod_nonneg y hx,Int.tmod_lt_of_pos x hy⟩
 refine jl rfl (jsu ?_);rw[show m + 1 - 1 = m from ω];refine jl rfl (jln (jlt (jif (λh1=>?_) (λh1=>?_))))
 ·have h1:=z_f h1;refine jl rfl (Nj hf hm.1 h1 λq x x0 x1 hq=>(hq _ _ (@jcv _ _ _ _ ⟨ω,ω⟩ (JB ω ?_))));obtain⟨t0,t1⟩:=tm x n x0 ω;exact fin _ t0 (.inl t1)
 ·refine Aw (λvs R' D'=>R' = R∧D' = (rb,C 118 [.slice a l cap,I (m + 1)]) :: F∧∃x:Int,0≤x∧x < 1000000000000∧vs = [I n,I x]) (λK hK=>?_) ?_
  ·obtain⟨k0,k1⟩:=tm m l hm.1 ω;obtain⟨k2,k3⟩:=tm (m * 7 + 3) l ω ω;have q0:0≤m.tdiv l:=Int.tdiv_nonneg hm.1 ω;have q1:m.tdiv l≤m:=by
    rw[SQ hm.1];exact Int.ediv_le_self _ hm.1
   refine jl rfl (jl rfl (jln (JB ω (Nj hf k0 k1 λqa x x0 x1 hqa=>(hqa _ _ (jl rfl (Fw ⟨ω,ω⟩ (jad (jl rfl (jln (JB ω (Nj hf k2 k3 λqb y y0 y1 hqb=>(hqb _ _ (Fw ⟨ω,ω⟩ (jl rfl (jln (Jo ω ⟨ω,ω⟩ (Fw ⟨ω,ω⟩ (EM ?_ (Cr ?_))))))))))))))))))))
   ·refine @jcv _ _ _ _ ⟨ω,ω⟩ (Fw ⟨ω,ω⟩ (As (jl rfl jev) (As (jl rfl jev) (As (hqb _ _ jev) (As (jl rfl jev) (@jcv _ _ _ _ ⟨ω,ω⟩ (Fw ⟨ω,ω⟩ (jad (jad (jad (As (jl rfl jev) (hK _ _ _ ⟨rfl,rfl,_,ω,ω,rfl⟩))))))))))))
   ·refine @jcv _ _ _ _ ⟨ω,ω⟩ (Fw ⟨ω,ω⟩ (As (jl rfl jev) (As (jl rfl jev) (As (hqa _ _ jev) (As (jl rfl jev) (@jcv _ _ _ _ ⟨ω,ω⟩ (Fw ⟨ω,ω⟩ (jad (jad (jad (As (jl rfl jev) (hK _ _ _ ⟨rfl,rfl,_,ω,ω,rfl⟩))))))))))))
  rintro e R1 D1 ⟨hR,hD,x,x0,x1,he⟩;subst hR;refine z_W ?_;have e1:x.tdiv 64 = x / 64:=SQ x0;refine Jo δ (by rw[e1];constructor<;>omega) ?_;rw[e1];refine Qz ⟨x0,ω⟩ ⟨ω,ω⟩ λz z0 z1=>JB ω ?_
  obtain⟨t0,t1⟩:=tm z n z0 ω;exact fin _ t0 (.inl t1)
theorem jpk {R:RM} {D E:Chs} {rb:Nat} {v:Value} {n m:Int} {k:Value→M} (hb:Byt R v) (hm:0≤m∧m < 1000000000) [t:Tk D rb (rdO v m) E] (H:∀x,0≤x→(x < n∨x = 0)→J R ((rb,rdO v (m + 1)) :: E) (k (I x))) :
  J R D (CA P DH [Pt rb,I n] k):=by
 refine jc (PI hb hm) ?_;rintro _ _ _ _ ⟨rfl,rfl,x,rfl,x0,x1⟩;exact H x x0 x1
end Go.Lf
end
section
namespace Sm
variable {P:List (List Op)}
def thg (w:List Int) (a:Int):AF:=⟨a,wv w a,shp w a,seg w (a + 2) (shp w a).refs,seg w (a + 2 + (shp w a).refs) (shp w a).nums⟩
theorem JC {n:Nat} {k:Nat} (h:n = 16 * k) (h0:2≤k) (h1:k≤12):Ag n = true:=by
 subst h;simp only[Ag,z_b,beq_iff_eq,z_d];omega
theorem Geo.wok {w:List Int} {t:List Rg} {B:Int→Prop} (G:Geo w t B):Ag w.length = true:=by
 have h1:=G.len;exact JC (k:=t.length) ω G.ok.n0 G.ok.n1
theorem Geo.fits {w:List Int} {t:List Rg} {B:Int→Prop} (G:Geo w t B) {a s:Int} (h:B a) (s0:1≤s) (s1:s≤sz w a):Sm.fits w.length a s = true:=by
 obtain⟨g1,g2,g3,g4,g5,g6,g7,g8⟩:=G.inn h;unfold Sm.fits;rw[G.wok,Eo ω,Eo ω];simp only[Rj,z_b,z_d,beq_iff_eq];omega
structure Thn (w:List Int) (B:Int→Prop) (l:List AF):Prop where
 all:∀x∈l,B x.at_∧x = thg w x.at_
 has:∀a,B a→thg w a∈l
theorem Thn.find {w:List Int} {B:Int→Prop} {l:List AF} (T:Thn w B l) {a:Int} (h:B a):Al l a = some (thg w a):=by
 unfold Al;cases hf:l.find? λt=>t.at_ == a with
 | none=>
  have:=List.find?_eq_none.1 hf _ (T.has a h);simp[thg] at this
 | some x=>
  have h1:=List.find?_some hf;have h2:=List.mem_of_find?_eq_some hf;have h3:x.at_ = a:=by simpa using h1
  rw[(T.all x h2).2,h3]
theorem Thn.now {w:List Int} {B:Int→Prop} {l:List AF} (T:Thn w B l) {a:Int} (h:a≠0→B a):now l a = some (if a = 0 then 0 else wv w a):=by
 unfold Sm.now;by_cases c:a = 0
 ·rw[if_pos c,if_pos c]
 ·rw[if_neg c,if_neg c,T.find (h c)];rfl
theorem ET {α:Type} [DecidableEq α]:∀{xs ys:List α},xs.Nodup→(∀x∈xs,x∈ys)→xs.length≤ys.length:=by
 intro xs;induction xs with
 | nil=>intro ys _ _;simp
 | cons x r ih=>
  intro ys hn h;rw[SZ] at hn;have hx:=h x σ;have:=ih (ys:=ys.erase x) hn.2 λy hy=>by
   have hne:y≠x:=λc=>by subst c;exact hn.1 hy
   exact (List.mem_erase_of_ne hne).2 (h y (by simp[hy]))
  rw[List.length_erase_of_mem hx] at this;have:=List.length_pos_of_mem hx;simp;omega
section
variable {w:List Int} {B L:Int→Prop} {l:List AF}
structure Cur (w:List Int) (L:Int→Prop) (out:List Int):Prop where
 nd:out.Nodup
 cu:∀a∈out,L a∧wv w a = a
 nz:∀a∈out,a≠0
theorem Cur.put {out:List Int} (C:Cur w L out) {a:Int} (h:a≠0→L a∧wv w a = a):Cur w L (Cj out a)∧(∀b∈out,b∈Cj out a)∧(a≠0→a∈Cj out a)∧∃e,Cj out a = out ++ e:=by
 unfold Cj;by_cases c:a = 0∨a∈out
 ·rw[if_pos c];exact⟨C,λ_ h=>h,λh0=>by rcases c with c | c;exact absurd c h0;exact c,[],σ⟩
 ·rw[if_neg c];rw[not_or] at c;refine⟨⟨?_,λb hb=>?_,λb hb=>?_⟩,λb hb=>S9 _ hb,λ_=>σ,[a],rfl⟩
  ·rw[List.nodup_append];exact⟨C.nd,σ,λx hx y hy=>by simp only[Ri] at hy;subst hy;intro e;subst e;exact c.2 hx⟩
  ·rcases Rq.1 hb with hb | hb
   ·exact C.cu b hb
   ·simp only[Ri] at hb;subst hb;exact h c.1
  ·rcases Rq.1 hb with hb | hb
   ·exact C.nz b hb
   ·simp only[Ri] at hb;subst hb;exact c.1
end
end Sm
end
section
namespace Sm
variable {P:List (List Op)}
theorem Jx {l:List Int} {x:Int}:∀k,Cs l x k≤k∧(∀j,Cs l x k≤j→j < k→x < l.getD j 0)∧(0 < Cs l x k→¬ x < l.getD (Cs l x k - 1) 0):=by
 intro k;induction k with
 | zero=>exact⟨z_n 0,λj h h'=>ω,λh=>by simp[Cs] at h⟩
 | succ k ih=>
  unfold Cs;split
  ·obtain⟨h1,h2,h3⟩:=ih;refine⟨ω,λj hj hk=>?_,h3⟩;by_cases c:j = k
   ·subst c;assumption
   ·exact h2 j hj ω
  ·exact⟨z_n _,λj h h'=>ω,λ_=>by rw[Nat.add_sub_cancel];assumption⟩
theorem M3 {l:List Int} {x:Int} (h:l.Pairwise (· < ·)) (hx:x ∉ l):(Hx l x).Pairwise (· < ·)∧∀y,y∈Hx l x↔y = x∨y∈l:=by
 obtain⟨h1,h2,h3⟩:=Jx (l:=l) (x:=x) l.length;unfold Hx;dsimp only;generalize Cs l x l.length = p at h1 h2 h3;have gd:∀j (hj:j < l.length),l.getD j 0 = l[j]:=λj hj=>by rw[Rh,RU hj];rfl
 have hpw:=T5.1 h;constructor
 ·rw[List.pairwise_append];refine⟨h.sublist (List.take_sublist p l),?_,?_⟩
  ·rw[List.pairwise_cons];refine⟨λy hy=>?_,h.sublist (List.drop_sublist p l)⟩;obtain⟨k,hk,rfl⟩:=S5 hy;simp only[SR] at hk;rw[TR,← gd (p + k) ω];exact h2 _ ω ω
  ·intro a ha b hb;obtain⟨i,hi,rfl⟩:=S5 ha;simp only[Rk] at hi;rw[List.getElem_take];have hax:l[i] < x:=by
    have h4:=h3 ω;rw[gd (p - 1) ω] at h4;have h5:l[i]≤l[p - 1]'(ω):=by
     by_cases c:i = p - 1
     ·subst c;exact Int.le_refl _
     ·have:=hpw i (p - 1) ω ω ω;omega
    have h6:l[i]≠x:=λc=>hx (c▸RZ ω)
    omega
   rcases Rf.1 hb with hb | hb
   ·rw[hb];exact hax
   ·obtain⟨k,hk,rfl⟩:=S5 hb;simp only[SR] at hk;rw[TR,← gd (p + k) ω];have:=h2 (p + k) ω ω;omega
 ·intro y;have:y∈l↔y∈l.take p∨y∈l.drop p:=by rw[← Rq,TK]
  rw[Rq,Rf,this];constructor
  ·rintro (h | h | h)
   ·exact .inr (.inl h)
   ·exact .inl h
   ·exact .inr (.inr h)
  ·rintro (h | h | h)
   ·exact .inr (.inl h)
   ·exact .inl h
   ·exact .inr (.inr h)
theorem DA {l:List Int} (h:l.Nodup):(AR l).Pairwise (· < ·)∧∀y,y∈AR l↔y∈l:=by
 have:∀(l acc:List Int),l.Nodup→acc.Pairwise (· < ·)→(∀x∈l,x ∉ acc)→(l.foldl Hx acc).Pairwise (· < ·)∧∀y,y∈l.foldl Hx acc↔y∈l∨y∈acc:=by
  intro l;induction l with
  | nil=>intro acc _ h _;exact⟨h,λy=>σ⟩
  | cons x r ih=>
   intro acc hn h hd;rw[SZ] at hn;obtain⟨i1,i2⟩:=M3 h (hd x σ);obtain⟨j1,j2⟩:=ih (Hx acc x) hn.2 i1 λy hy hm=>by
    rcases (i2 y).1 hm with c | c
    ·subst c;exact hn.1 hy
    ·exact hd y (by simp[hy]) c
   refine⟨j1,λy=>?_⟩;rw[List.foldl_cons,j2 y,i2 y,Rf];constructor
   ·rintro (h | h | h)
    ·exact .inl (.inr h)
    ·exact .inl (.inl h)
    ·exact .inr h
   ·rintro ((h | h) | h)
    ·exact .inr (.inl h)
    ·exact .inl h
    ·exact .inr (.inr h)
 obtain⟨h1,h2⟩:=this l [] h List.Pairwise.nil (λ_ _ h=>by cases h);exact⟨h1,λy=>by rw[AR,h2 y];simp⟩
section
variable {s:AU} {B0:Int→Prop}
end
end Sm
end
section
namespace Sm
variable {P:List (List Op)}
structure Lr (f:Int→Shp) (t:List Rg) (B:Int→Prop):Prop where
 ok:TOk t
 at_:∀a,B a→16≤a∧a + AA (f a)≤(rv t (a / 16)).top∧Ad (f a) = true
 nx:∀a,B a→a + AA (f a) = (rv t (a / 16)).top∨B (a + AA (f a))
 bs:∀r:Int,1≤r→r < t.length→(rv t r).top = 16 * r∨B (16 * r)
 dj:∀a b,B a→B b→a < b→a + AA (f a)≤b
theorem Gc {s:Shp} (h:Ad s = true):2≤AA s∧AA s≤10∧AA s = 2 + s.refs + s.nums∧0≤s.refs∧0≤s.nums:=by
 have hb:=h;simp only[Ad,z_b,z_d] at hb;rw[Kj ω];omega
theorem Lr.inn {f:Int→Shp} {t:List Rg} {B:Int→Prop} (G:Lr f t B) {a:Int} (h:B a):16≤a∧1≤a / 16∧a / 16 < t.length∧a + AA (f a)≤(rv t (a / 16)).top∧(rv t (a / 16)).top≤16 * (a / 16) + 16∧2≤AA (f a)∧AA (f a)≤10∧a + AA (f a)≤16 * t.length:=by
 obtain⟨h1,h2,h3⟩:=G.at_ a h;have hs:=Gc h3;by_cases c:a / 16 < t.length
 ·have:=(G.ok.row (a / 16) ω c).t1;exact⟨h1,ω,c,h2,this,ω,ω,ω⟩
 ·rw[HH ω ω] at h2;simp only[DZ] at h2;omega
theorem Lr.add {f:Int→Shp} {t:List Rg} {B:Int→Prop} (G:Lr f t B) {r d:Int} {sh:Shp} (r0:1≤r) (r1:r < t.length) (hd:(rv t r).top = d) (ho:(rv t r).AM = -1) (hs:Ad sh = true) (fit:d + AA sh≤16 * r + 16) :
  Lr (λx=>if x = d then sh else f x) (Ak t r { rv t r with kind:=3,top:=d + AA sh,Bl:=d + AA sh }) (λb=>B b∨b = d)∧¬ B d∧d / 16 = r:=by
 have R:=G.ok.row r r0 r1;have t0:=R.t0;have n:=Gc hs;have ed:d / 16 = r:=ω
 have nb:∀b,B b→b / 16 = r→b + AA (f b)≤d:=λb hb hr=>by
  have:=(G.at_ b hb).2.1;rw[hr,hd] at this;exact this
 have nd:¬ B d:=λh=>by
  have h1:=nb d h ed;have h2:=Gc (G.at_ d h).2.2;omega
 have fb:∀b,B b→(if b = d then sh else f b) = f b:=λb hb=>if_neg (show ¬ b = d from λc=>nd (c▸hb))
 have e:∀q,0≤q→(rv (Ak t r { rv t r with kind:=3,top:=d + AA sh,Bl:=d + AA sh }) q).top = if q = r then d + AA sh else (rv t q).top:=λq q0=>by
  rw[If ω r1 q0];split
  ·rfl
  ·rfl
 refine⟨⟨?_,?_,?_,?_,?_⟩,nd,ed⟩
 ·refine TOk.set G.ok r0 r1 ⟨σ,σ,?_,fit,?_,Int.le_refl _,R.l0,?_,λh=>by simp at h,by simp[ho],R.o0,R.o1⟩ λs _ _ _ h=>by simp[ho] at h
  ·show 16 * r≤d + AA sh;omega
  ·show 16 * r≤d + AA sh;omega
  ·have:=R.l1;show (rv t r).AQ≤d + AA sh - 16 * r;omega
 ·rintro b (hb | hb)
  ·obtain⟨a1,a2,a3⟩:=G.at_ b hb;simp only[fb b hb];refine⟨a1,?_,a3⟩;rw[e _ ω];split
   ·have:=nb b hb (by assumption);omega
   ·exact a2
  ·subst hb;simp only[if_true];refine⟨ω,?_,hs⟩;rw[e _ ω,if_pos ed];omega
 ·rintro b (hb | hb)
  ·have a1:=(G.at_ b hb).1;simp only[fb b hb];rw[e _ ω];rcases G.nx b hb with c | c
   ·split
    ·rename_i c2;rw[c2,hd] at c;exact .inr (.inr c)
    ·exact .inl c
   ·exact .inr (.inl c)
  ·subst hb;left;simp only[if_true];rw[e _ ω,if_pos ed]
 ·intro q q0 q1;simp only[Bz] at q1;rw[e q ω];rcases G.bs q q0 q1 with c | c
  ·split
   ·rename_i c2;subst c2;right;right;omega
   ·exact .inl c
  ·exact .inr (.inl c)
 ·rintro a b (ha | ha) (hb | hb) hab
  ·simp only[fb a ha];exact G.dj a b ha hb hab
  ·subst hb;simp only[fb a ha];by_cases c:a / 16 = r
   ·exact nb a ha c
   ·have:=G.inn ha;omega
  ·subst ha;simp only[if_true];by_cases c:b / 16 = r
   ·have h1:=nb b hb c;have h2:=Gc (G.at_ b hb).2.2;omega
   ·omega
  ·omega
end Sm
end
section
namespace Sm
variable {P:List (List Op)}
section
variable {c:Nat} {S:Sim} {g:Gh}
end
end Sm
end
section
namespace Sm
variable {P:List (List Op)}
section
variable {c:Nat} {S:Sim} {g:Gh}
end
end Sm
end
section
namespace Go.Lf
open Go Sm

end Go.Lf
end
