/- A part of the proof of the given row: the walk of the law and of all that it calls. Conditions: none. -/
import Derived.Test.YtlagojobcbkpdaaGreatRows
import Derived.ProofKit
import Derived.ChangeOld
import Derived.MapKept
import Derived.ChangeMaps4
import Derived.Test.YtlagojobcbkpdaaGreatCM
set_option linter.unusedVariables false
set_option linter.unusedSimpArgs false
section
namespace Sm
variable {P:List (List Op)}
section
variable {c:Nat} {S:Sim} {g:Gh}
theorem Ue {n:Nat} (hc:c < 900000) (hn:S.Aa = 1→mu S < n) (I:IG P S g) (B:Bd c S) (hcm:S.calm = true) (hst:S.stop = true):∃S' g',S.pause n = some S'∧IG P S' g'∧Bd (c + 1) S':=by
 unfold Sim.pause;rw[I.szok rfl B hc,if_neg (by decide)];by_cases hf:S.full = true
 ·rw[if_pos hf];obtain⟨s,g',e,I',B'⟩:=VS hc I B hcm;simp only[Yo];rw[e];exact⟨_,g',rfl,I',B'⟩
 ·rw[if_neg hf];dsimp only;rcases I.wt hst (by simpa using hf) with ⟨h,h'⟩ | ⟨h,h'⟩ | ⟨h,h',hw⟩ | ⟨h,h',hw⟩
  ·rw[if_pos h'];obtain⟨g',I',B'⟩:=OR I B hcm h;exact⟨_,g',rfl,I',B'.mono (ZN c)⟩
  ·rw[if_neg (by omega),if_pos h'];obtain⟨S',g',e,I',B'⟩:=T5 hc (hn h) I B hcm h;exact⟨S',g',e,I',B'⟩
  ·rw[if_neg (by omega),if_neg (by omega),if_pos h'];obtain⟨S',e,I',B'⟩:=TP I B hcm h hw;exact⟨S',g,e,I',B'.mono (ZN c)⟩
  ·rw[if_neg (by omega),if_neg (by omega),if_neg (by omega)];obtain⟨S',g',e,I',B'⟩:=Sw hc I B hcm h hw;exact⟨S',g',e,I',B'⟩
theorem OK {n:Nat} (hc:c < 900000) (hn:S.Aa = 1→mu S + 1 < n) (h2:1 < n) (I:IG P S g) (B:Bd c S):∃S' g',S.collector n = some S'∧IG P S' g'∧Bd (c + 1) S':=by
 unfold Sim.collector;by_cases hst:S.stop = true
 ·rw[if_pos hst];split
  ·exact Ue hc (λh=>by have:=hn h;omega) I B (by assumption) hst
  ·exact⟨S,g,rfl,I,B.mono (ZN c)⟩
 ·rw[if_neg hst];by_cases h0:S.Aa = 0
  ·rw[if_pos h0];split
   ·refine⟨_,g,rfl,⟨I.pg,I.sh,I.n0,I.n1,I.pl,I.pp,I.ti,λh=>?_,λh=>?_,λh=>?_,(λ_ _=>.inl ⟨h0,rfl⟩),I.rs⟩,(have B':=B.mono (ZN c);⟨B'.ev,B'.old,B'.cy,B'.fu,B'.st,B'.pn⟩)⟩
    ·exact absurd (h0.symm.trans h) (by decide)
    ·exact absurd (h0.symm.trans h) (by decide)
    ·exact absurd (h0.symm.trans h) (by decide)
   ·exact⟨S,g,rfl,I,B.mono (ZN c)⟩
  ·rw[if_neg h0];have hp:0≤S.Aa:=I.sh.ph.1;obtain⟨S',g',e,I',B'⟩:=U4 hc n { S with used:=false } g (I.usd false) (B.usd false) (by show 1≤S.Aa;omega) (by omega) (by
    by_cases h1:S.Aa = 1
    ·exact .inr (.inr (.inl ⟨h1,hn h1⟩))
    ·exact .inr (.inr (.inr ⟨by show 2≤S.Aa;omega,h2⟩)))
   exact⟨S',g',e,I',B'.mono (ZN c)⟩
theorem NW {p:Int} (hc:c + 5 < 900000) (I:IG P S g) (B:Bd c S):∃S' g',S.pick p = some S'∧IG P S' g'∧Bd (c + 5) S':=by
 unfold Sim.pick;by_cases h:0≤p∧p < S.th.length
 ·rw[if_pos h];exact Sg hc (by unfold Sim.fuel;omega) I B h.1 h.2
 ·rw[if_neg h];split
  ·obtain⟨S',g',e,I',B'⟩:=OK (n:=S.fuel) (by omega) (λh1=>by
    have C:=I.c1 h1
    have hr:FC S.col≤4:=by
     unfold FC
     split
     ·rename_i h
      obtain⟨_,_,p3,p4,_⟩:=C.p2 h
      have:=Em S.AB S.col.p
      have p3:S.col.sh = shp S.AB S.col.p:=p3
      rw[p3];omega
     ·omega
    have hu:=Ke S.AR
    have hml:S.AR.length = S.AB.length:=I.sh.ml
    unfold mu Sim.fuel
    omega) (by unfold Sim.fuel;omega) I B
   exact⟨S',g',e,I',B'.mono (by omega)⟩
  ·split
   ·exact⟨_,g,rfl,⟨I.pg,I.sh,I.n0,I.n1,I.pl,I.pp,I.ti,λh=>(I.c1 h).col rfl rfl rfl rfl,λh=>(have C:=I.c2 h;⟨C.r0,C.r1,C.p0,C.p1,C.wk,C.pc⟩),λh=>(have C:=I.c3 h;⟨C.pc,C.r0,C.r1,C.p0,C.at_,C.f,C.v,C.w,C.u,C.cl⟩),I.wt,I.rs⟩,(have B' : Bd (c + 5) S:=B.mono (by omega);⟨B'.ev,B'.old,B'.cy,B'.fu,B'.st,B'.pn⟩)⟩
   ·exact⟨S,g,rfl,I,B.mono (by omega)⟩
theorem Oj:∀(ps:List Int) (c:Nat) (S:Sim) (g:Gh),c + 5 * ps.length < 900000→IG P S g→Bd c S→∃S' g',Sim.picks ps S = some S'∧IG P S' g'∧Bd (c + 5 * ps.length) S':=by
 intro ps;induction ps with
 | nil=>intro c S g _ I B;exact⟨S,g,rfl,I,B⟩
 | cons p r ih=>
  intro c S g hc I B;simp only[Z8] at hc ⊢;obtain⟨S1,g1,e1,I1,B1⟩:=NW (p:=p) (by omega) I B;obtain⟨S2,g2,e2,I2,B2⟩:=ih (c + 5) S1 g1 (by omega) I1 B1;unfold Sim.picks;rw[e1];simp only[Yo,z_o];exact⟨S2,g2,e2,I2,by rw[show c + 5 * (r.length + 1) = c + 5 + 5 * r.length from by omega];exact B2⟩
theorem Kh {c:Cfg} {AX:List (List Op)} (hc:BY c = true) (hl:(AX.length:Int) = c.AA) (hp:∀p∈AX,p.length≤40):∃g,IG AX (start c AX) g∧Bd 0 (start c AX):=by
 simp only[BY,z_b,z_d] at hc;obtain⟨⟨⟨⟨⟨c1,c2⟩,c3⟩,c4⟩,c5⟩,c6⟩:=hc;obtain⟨tn0,tn1,tn2⟩:=H8 (n:=c.AC) (by omega) (by omega);have hw:(start c AX).AB = put (List.replicate (c.AC.toNat * 16) 0) 16 [16,66,0,0,0,0,0,0]:=by
  unfold start;show (CF (List.replicate (c.AC.toNat * 16) 0) 16 Bp).1 = _;unfold CF;have hk:BJ (List.replicate (c.AC.toNat * 16) (0:Int)).length = true:=Ja (k:=c.AC.toNat) (by simp;omega) (by omega) (by omega);rw[if_pos]
  ·rfl
  ·unfold fits;rw[hk];have:(List.replicate (c.AC.toNat * 16) (0:Int)).length = c.AC.toNat * 16:=by simp
   rw[this];simp only[Yx,z_b,z_d,beq_iff_eq];refine⟨⟨⟨⟨by decide,by decide⟩,by decide⟩,by omega⟩,by decide⟩
 have wl:((start c AX).AB.length:Int) = 16 * c.AC:=by
  rw[hw];unfold put;simp only[Yn,Z0,ZO,Z9,Z8,Zj];rw[show (16:Int).toNat = 16 from rfl];omega
 have wvs:∀k:Nat,k < 8→wv (start c AX).AB (16 + k) = [16,66,0,0,0,0,0,0].getD k 0:=λk hk=>by
  rw[hw];unfold wv gv put;rw[show ((16:Int) + (k:Int)).toNat = 16 + k from by omega,show (16:Int).toNat = 16 from rfl,Ys];have hl:(List.take 16 (List.replicate (c.AC.toNat * 16) (0:Int))).length = 16:=by simp;omega
  rw[Z5,aW (by omega),hl,Zp (by simp;omega),Z5];congr 2;omega
 have tl:((start c AX).A0.length:Int) = c.AC:=by
  show ((AW (AU c.AC) 1 _).length:Int) = _;rw[Cq];exact tn0
 have tr:∀r:Int,0≤r→rv (start c AX).A0 r = if r = 1 then ⟨3,-1,24,24,0⟩ else rv (AU c.AC) r:=λr r0=>DS (by decide) (by omega) r0
 have T:TOk (start c AX).A0:=by
  refine⟨by omega,by omega,by rw[tr 0 (by decide),if_neg (by decide)];exact tn1,λr r0 r1=>?_,λr s r0 r1 _ _ ho _=>?_⟩
  ·rw[tr r (by omega)];split
   ·subst r;exact⟨by decide,by decide,by decide,by decide,by decide,by decide,by decide,by decide,by decide,by decide,by decide,by decide⟩
   ·rw[tn2 r r0 (by omega)];exact (DL r0 (by omega)).1
  ·rw[tr r (by omega)] at ho;split at ho
   ·simp at ho
   ·rw[tn2 r r0 (by omega),(DL r0 (by omega)).2] at ho;simp at ho
 have h17:wv (start c AX).AB (16 + 1) = 66:=wvs 1 (by decide);have hsh:shp (start c AX).AB 16 = ⟨4,2⟩:=by unfold shp;rw[h17];rfl
 have hsz:sz (start c AX).AB 16 = 8:=by unfold sz;rw[hsh];rfl
 have h16:wv (start c AX).AB 16 = 16:=wvs 0 (by decide);have nf:∀r:Int,0≤r→(rv (start c AX).A0 r).kind≠4:=λr r0=>by
  rw[tr r r0];split
  ·simp
  ·by_cases h:r < c.AC
   ·by_cases h1:1≤r
    ·rw[tn2 r h1 h,(DL h1 (by omega)).2];simp
    ·rw[show r = 0 from by omega,tn1];simp[DY]
   ·rw[DH r0 (by omega)];simp[DY]
 have nfr:∀a,¬ BT (start c AX).A0 a:=λa hf=>nf (a / 16) (by have:=hf.1;omega) hf.2
 have fm:∀a,mv (start c AX).AR a = false:=λa=>Nv
 have t1:(rv (start c AX).A0 1).top = 24:=by rw[tr 1 (by decide),if_pos rfl]
 refine⟨⟨(· = 16),(· = 16),λ_=>0,λ_=>False⟩,⟨rfl,?_,?_,?_,?_,hp,λi t h=>?_,λh=>absurd (show (0:Int) = 1 from h) (by decide),λh=>absurd (show (0:Int) = 2 from h) (by decide),λh=>absurd (show (0:Int) = 3 from h) (by decide),(λh=>by cases h),⟨c5,c6⟩⟩,?_⟩
 ·refine⟨⟨by rw[wl,tl],T,?_,?_,?_,?_⟩,λa h=>h,?_,?_,λa _ hf=>absurd hf (nfr a),?_,λa _ h=>?_,by show (0:Int)≤0∧(0:Int)≤3;decide,λ_=>nf,λh=>absurd (show (2:Int)≤0 from h) (by decide),λa h=>(by cases h),λa _ hf=>absurd hf (nfr a),λh=>absurd (show (1:Int)≤0 from h) (by decide),λh=>absurd (show (0:Int) = 3 from h) (by decide),λh=>absurd (show (0:Int) = 1 from h) (by decide)⟩
  ·rintro a rfl;refine⟨by decide,?_,?_⟩
   ·rw[hsz,show (16:Int) / 16 = 1 from rfl,t1];decide
   ·rw[h17];rfl
  ·rintro a rfl;left;rw[hsz,show (16:Int) / 16 = 1 from rfl,t1];rfl
  ·intro r r0 r1;have r1:r < (start c AX).A0.length:=r1;by_cases h:r = 1
   ·right;show 16 * r = 16;omega
   ·left;rw[tr r (by omega),if_neg h,tn2 r r0 (by omega),(DL r0 (by omega)).2]
  ·rintro a b rfl rfl h;omega
  ·rintro a j rfl j0 j1 hn;exfalso;rw[hsh] at j1;simp only at j1;have:=wvs (2 + j.toNat) (by omega);rw[show (16:Int) + ((2 + j.toNat:Nat):Int) = 16 + 2 + j from by omega] at this;apply hn;rw[this];have hj:j.toNat = 0∨j.toNat = 1∨j.toNat = 2∨j.toNat = 3:=by omega
   rcases hj with h | h | h | h<;>rw[h]<;>rfl
  ·rintro a rfl _;exact h16
  ·show (List.replicate (c.AC.toNat * 16) false).length = (start c AX).AB.length;rw[Z9];omega
  ·rw[fm] at h;cases h
 ·show 1≤(List.replicate c.AA.toNat _).length;rw[Z9];omega
 ·show (List.replicate c.AA.toNat _).length≤3;rw[Z9];omega
 ·show AX.length = (List.replicate c.AA.toNat _).length;rw[Z9];omega
 ·have hm:=IQ h;have:t = thr0 [16] 0 0:=(Za.1 (show t∈List.replicate c.AA.toNat (thr0 [16] 0 0) from hm)).2;subst this;exact⟨λa ha _=>by simpa [thr0] using ha,by decide,by decide,λ_ _ h=>absurd rfl h,.inl ⟨rfl,rfl,rfl⟩⟩
 ·have h2:=Ke (List.replicate (c.AC.toNat * 16) false);rw[Z9] at h2;refine⟨z_n 0,z_n 0,⟨ZM 0,ZM 0⟩,⟨ZM 0,ZM 0⟩,?_,Nat.zero_le _⟩;show 0 + 0 + 5 * (List.replicate (c.AC.toNat * 16) false).countP (λb=>!b) + (if (0:Int) = 2 then _ else 0)≤3000 + 0;rw[if_neg (by decide)];omega
end
end Sm
end
section
namespace Go.Lf
open Go Sm
theorem SM {P0:List (List Sm.Op)} {S:Sim} {gh:Gh} (I:IG P0 S gh):Pr S∧TOk S.A0:=by
 refine⟨⟨⟨by have:=I.rs.1;omega,by have:=I.rs.2;omega⟩,λa ha=>?_⟩,I.sh.g.ok⟩;have h1:=I.sh.pl a ha;have h2:=I.sh.g.inn (I.sh.lb a h1.1);have h3:=I.wl;obtain⟨h4,_,_,_,_,h5,h6,_⟩:=h2;have h5:a + sz S.AB a≤S.AB.length:=h5;have h6:2≤sz S.AB a:=h6;unfold AS;split<;>omega
theorem Y5 {P0:List (List Sm.Op)} {S:Sim} {gh:Gh} {c:Nat} (I:IG P0 S gh) (B:Bd c S) (hc:c < 900000):S.sz = true:=I.szok rfl B hc
theorem W2 {P0:List (List Sm.Op)} {p c:Nat} {S:Sim} {gh:Gh} {a:Int} (i0:IG P0 S gh) (B:Bd c S) (hc:c + 5 < 900000) (ha:inR a) :
  ∃S' gh',IG P0 S' gh'∧Bd (c + 5) S'∧S.pick a = some S'∧∀R g,Ok R S g→Fn P HE [Pt p,I a] R (AY p S g) (Ci p S' λ_=>True):=by
 obtain⟨S',gh',e,I',B'⟩:=NW (p:=a) hc i0 B;exact⟨S',gh',I',B',e,λR g hok=>UF hok ha (λR g S1 ok hp=>Rj ok (SM i0).1 (SM i0).2 hp) e⟩
theorem Qk {P0:List (List Sm.Op)}:∀(ps:List Int) (i c:Nat) (S:Sim) (gh:Gh),c + 5 * ps.length < 900000→IG P0 S gh→Bd c S→∀S1,Sim.picks (ps.take i) S = some S1→∃gh1,IG P0 S1 gh1:=by
 intro ps i c S gh hc I B S1 h;have hl:(ps.take i).length≤ps.length:=by simp;omega
 obtain⟨S2,g2,e2,I2,_⟩:=Oj (ps.take i) c S gh (by omega) I B;rw[h] at e2;cases e2;exact⟨g2,I2⟩
theorem Jl {c:Cfg} {AX:List (List Sm.Op)} {picks:List Int} (h:Ca c AX picks = true):BY c = true∧(AX.length:Int) = c.AA∧picks.length≤4000∧∀p∈AX,p.length≤40:=by
 unfold Ca at h;simp only[z_b,z_d,ZE] at h;exact⟨h.1.1.1,h.1.1.2,h.1.2,h.2⟩
theorem Wv {c0:Cfg} {AX:List (List Sm.Op)} {picks:List Int} (hok:Ca c0 AX picks = true) (ha:∀a∈picks,inR a) :
  ∃S' gh,IG AX S' gh∧Bd 20000 S'∧Sim.picks picks (Sm.start c0 AX) = some S'∧∀R pv kv,EA R pv AX→BC R kv picks→Fn P Ej [.agg #[I c0.AC,I c0.AA,I c0.AN],pv,kv] R [] (λv R' A=>∃p g rows thv A',Ok R' S' g∧Rw (Co R') rows S'.view.AA∧SW 83 4 rows thv A'∧A = A' ++ AY p S' g∧
   v = .tuple #[.agg (eSt S'.view (wS S' g) (tS S' g) (mS S' g) thv g.old g.AO).toArray,evV S' g]):=by
 obtain⟨h1,h2,h3,h4⟩:=Jl hok;obtain⟨g0,I0,B0⟩:=Kh h1 h2 h4;obtain⟨S',gh,e,I',B'⟩:=Oj picks 0 _ g0 (by omega) I0 B0;refine⟨S',gh,I',B'.mono (by omega),e,λR pv kv hp hk=>Oa hp hk hok ha e (Y5 I' B' (by omega)) λi S hS p R g S1 ok hpz=>?_⟩;obtain⟨gh1,I1⟩:=Qk picks i 0 _ g0 (by omega) I0 B0 S hS;exact Rj ok (SM I1).1 (SM I1).2 hpz
end Go.Lf
end
section
namespace Sm
def Rn (x:Int):Prop:=-9223372036854775808≤x∧x < 9223372036854775808
structure RT (t:Thr):Prop where
 r:∀a∈t.AD,Rn a
 h:Rn t.h
 g:Rn t.g
 k:Rn t.k
 u:Rn t.u
 v:Rn t.v
 w:Rn t.word
 d:Rn t.dst
structure RC (x:Col):Prop where
 w:Rn x.word
 d:Rn x.dst
structure RS (S:Sim):Prop where
 w:∀x∈S.AB,Rn x
 t:∀t∈S.th,RT t
 c:RC S.col
 o:∀p∈S.AX,∀o∈p,Rn o.v
theorem Rn.zero:Rn 0:=by unfold Rn;omega
theorem CY {α:Type} {l:List α} {i:Int} {x:α} (h:idx l i = some x):x∈l:=by
 unfold idx at h;split at h
 ·exact List.mem_of_getElem? h
 ·cases h
theorem EJ {α:Type} {l:List α} {i:Int} {x y:α} (h:y∈AW l i x):y∈l∨y = x:=Zz h
theorem RT.thr0 {AD:List Int} {n m:Int} (h:∀a∈AD,Rn a):RT (thr0 AD n m):=⟨h,Rn.zero,Rn.zero,Rn.zero,Rn.zero,Rn.zero,Rn.zero,Rn.zero⟩
theorem Rn.room {t t' : List Rg} {o z d:Int} (h:BP t o z = some (t',d)):Rn d:=by
 have hh:BI t = true∧0≤o∧o≤3∧1≤z∧z≤16:=by
  unfold BP at h;split at h
  ·rename_i hh;simp only[z_b,z_d] at hh;exact⟨hh.1.1.1.1,hh.1.1.1.2,hh.1.1.2,hh.1.2,hh.2⟩
  ·cases h
 obtain⟨h0,h1,h2,h3,h4⟩:=hh;rcases F7 (Bk.1 h0) h1 h2 h3 h4 with hn | ⟨t2,d2,he,hr⟩
 ·rw[hn] at h;cases h
 rw[he] at h;cases h;have:=hr.d0;have n1:=hr.ok.n1;by_cases c:d / 16 < t'.length
 ·unfold Rn;omega
 ·have:=hr.dk;rw[DH (by omega) (by omega)] at this;cases this
theorem Rn.shape {s:Shp}:Rn (Am s):=by
 unfold Am;split
 ·rename_i h;simp only[BG,z_b,z_d] at h;unfold Rn;omega
 ·unfold Rn;omega
section
variable {S S' : Sim} {i a v:Int}
theorem RS.rd (R:RS S) (h:S.read a = some (v,S')):Rn v∧RS S'∧S'.th = S.th∧S'.AX = S.AX∧S'.col = S.col:=by
 unfold Sim.read at h;split at h
 ·rename_i hv;cases h;exact⟨R.w _ (CY hv),⟨R.w,R.t,R.c,R.o⟩,rfl,rfl,rfl⟩
 ·cases h
theorem RS.wt (R:RS S) (hv:Rn v) (h:S.write a v = some S'):RS S':=by
 unfold Sim.write at h;split at h
 ·cases h;exact⟨λx hx=>(EJ hx).elim (R.w x) λe=>e▸hv,R.t,R.c,R.o⟩
 ·cases h
theorem RS.st (R:RS S) {t:Thr} (ht:RT t):RS (S.setT i t):=⟨R.w,λx hx=>(EJ hx).elim (R.t x) λe=>e▸ht,R.c,R.o⟩
theorem RS.ev (R:RS S) {b:Int} (h:S.event i a b = some S'):RS S':=by
 unfold Sim.event at h;split at h
 ·cases h
 split at h
 ·rename_i ht;split at h
  ·cases h;exact⟨R.w,λx hx=>(EJ hx).elim (R.t x) λe=>e▸RT.thr0 (R.t _ (CY ht)).r,R.c,R.o⟩
  ·cases h
 ·cases h
theorem RS.pu (R:RS S) (ha:Rn a) (h:S.push i a = some S'):RS S':=by
 unfold Sim.push at h;split at h
 ·cases h
 split at h
 ·rename_i t ht;have T:=R.t _ (CY ht);refine RS.ev (R.st ?_) h;exact⟨λx hx=>(ZD.1 hx).elim (T.r x) λe=>by rw[Z3.1 e];exact ha,T.h,T.g,T.k,T.u,T.v,T.w,T.d⟩
 ·cases h
theorem RS.bk (R:RS S) (h:S.back i = some S'):RS S':=by
 unfold Sim.back at h;split at h
 ·rename_i ht;cases h;exact⟨R.w,λx hx=>(EJ hx).elim (R.t x) λe=>e▸RT.thr0 (R.t _ (CY ht)).r,R.c,R.o⟩
 ·cases h
theorem RS.tp (R:RS S) (h:S.top a v = some S'):RS S':=by
 unfold Sim.top at h;split at h
 ·split at h
  ·cases h;exact⟨R.w,R.t,R.c,R.o⟩
  ·cases h
 ·cases h
theorem RS.od (R:RS S) (h:S.oldV v = some S'):RS S':=by
 unfold Sim.oldV at h;split at h
 ·cases h
 ·cases h;split
  ·exact⟨R.w,R.t,R.c,R.o⟩
  ·exact R
theorem RS.op (R:RS S) {t:Thr} {o:Op} (h:S.opOf i t = some o):Rn o.v:=by
 unfold Sim.opOf at h;split at h
 ·rename_i hp;exact R.o _ (CY hp) _ (CY h)
 ·cases h
theorem RT.pc {t:Thr} (T:RT t) (n:Int):RT { t with pc:=n }:=⟨T.r,T.h,T.g,T.k,T.u,T.v,T.w,T.d⟩
theorem RT.hold {t:Thr} (T:RT t) (n:Int) (ha:Rn a):RT (Be t n a):=by
 unfold Be;split
 ·exact⟨T.r,ha,T.g,T.k,T.u,T.v,T.w,T.d⟩
 split
 ·exact⟨T.r,T.h,ha,T.k,T.u,T.v,T.w,T.d⟩
 split
 ·exact⟨T.r,T.h,T.g,ha,T.u,T.v,T.w,T.d⟩
 ·exact⟨T.r,T.h,T.g,T.k,T.u,ha,T.w,T.d⟩
theorem RS.begin_ (R:RS S) (h:S.begin_ i = some S'):RS S':=by
 unfold Sim.begin_ at h;obtain⟨t,ht,h⟩:=Yi.1 h;have T:=R.t _ (CY ht);obtain⟨o,ho,h⟩:=Yi.1 h;split at h
 ·exact R.ev h
 dsimp only at h;split at h
 ·exact R.ev h
 split at h
 ·exact RS.ev (R.st (by exact⟨λx hx=>T.r x (ZL hx),T.h,T.g,T.k,T.u,T.v,T.w,T.d⟩)) h
 split at h
 ·obtain⟨b,hb,h⟩:=Yi.1 h;exact R.pu (T.r _ (CY hb)) h
 split at h
 ·cases h;exact R.st (T.pc _)
 obtain⟨b,hb,h⟩:=Yi.1 h;have T1:RT { t with pc:=1,h:=b }:=⟨T.r,T.r _ (CY hb),T.g,T.k,T.u,T.v,T.w,T.d⟩;obtain⟨t2,h2,h⟩:=Yi.1 h;have T2:RT t2:=by
  split at h2
  ·obtain⟨c,hc,h2⟩:=Yi.1 h2;cases h2;exact⟨T1.r,T1.h,T1.r _ (CY hc),T1.k,T1.u,T1.v,T1.w,T1.d⟩
  ·cases h2;exact T1
 obtain⟨t3,h3,h⟩:=Yi.1 h;have T3:RT t3:=by
  split at h3
  ·obtain⟨c,hc,h3⟩:=Yi.1 h3;cases h3;exact⟨T2.r,T2.h,T2.g,T2.r _ (CY hc),T2.u,T2.v,T2.w,T2.d⟩
  ·cases h3;exact T2
 cases h;exact R.st T3
theorem RS.resolve (R:RS S) (h:S.resolve i = some S'):RS S':=by
 unfold Sim.resolve at h;obtain⟨t,ht,h⟩:=Yi.1 h;have T:=R.t _ (CY ht);split at h
 ·cases h
 dsimp only at h;obtain⟨f,hf,h⟩:=Yi.1 h;split at h
 ·cases h;exact R.st (T.pc _)
 obtain⟨⟨w,S1⟩,h1,h⟩:=Yi.1 h;obtain⟨hw,R1,e1,_⟩:=R.rd h1;dsimp only at h;split at h
 ·cases h;exact R1.st ⟨T.r,T.h,T.g,T.k,T.u,T.v,T.w,T.d⟩
 ·cases h;exact R1.st (T.hold _ hw)
theorem RS.copying (R:RS S) (h:S.copying i = some S'):RS S':=by
 unfold Sim.copying at h;obtain⟨t,ht,h⟩:=Yi.1 h;have T:=R.t _ (CY ht);split at h
 ·obtain⟨b,hb,h⟩:=Yi.1 h;obtain⟨⟨w,S1⟩,h1,h⟩:=Yi.1 h;obtain⟨hw,R1,_⟩:=R.rd h1;dsimp only at h;split at h
  ·exact R1.bk h
  ·rename_i hr;cases h;exact RS.st (by exact⟨R1.w,R1.t,R1.c,R1.o⟩) (by exact⟨T.r,T.h,T.g,T.k,T.u,T.v,T.w,Rn.room hr⟩)
 split at h
 ·obtain⟨b,hb,h⟩:=Yi.1 h;obtain⟨⟨w,S1⟩,h1,h⟩:=Yi.1 h;obtain⟨hw,R1,_⟩:=R.rd h1;cases h;exact R1.st ⟨T.r,T.h,T.g,T.k,T.u,T.v,hw,T.d⟩
 split at h
 ·obtain⟨b,hb,h⟩:=Yi.1 h;obtain⟨S1,h1,h⟩:=Yi.1 h;have R1:=R.wt T.w h1;obtain⟨n,hn,h⟩:=Yi.1 h;cases h;exact R1.st ⟨T.r,T.h,T.g,T.k,T.u,T.v,T.w,T.d⟩
 split at h
 ·obtain⟨S1,h1,h⟩:=Yi.1 h;have R1:=R.wt T.d h1;cases h;exact R1.st (T.pc _)
 split at h
 ·split at h
  ·cases h
  obtain⟨⟨w,S1⟩,h1,h⟩:=Yi.1 h;obtain⟨hw,R1,_⟩:=R.rd h1;dsimp only at h;split at h
  ·obtain⟨S2,h2,h⟩:=Yi.1 h;obtain⟨S3,h3,h⟩:=Yi.1 h;cases h;exact ((R1.wt T.d h2).tp h3).st (T.hold _ T.d)
  ·cases h;exact R1.st (T.hold _ hw)
 ·cases h;exact R.st T
theorem RS.making (R:RS S) (h:S.making i = some S'):RS S':=by
 unfold Sim.making at h;obtain⟨t,ht,h⟩:=Yi.1 h;have T:=R.t _ (CY ht);obtain⟨o,ho,h⟩:=Yi.1 h;split at h
 ·dsimp only at h;split at h
  ·split at h
   ·exact R.ev h
   ·exact R.bk h
  ·rename_i hr;cases h;exact RS.st (by exact⟨R.w,R.t,R.c,R.o⟩) (by exact⟨T.r,T.h,T.g,T.k,T.u,T.v,T.w,Rn.room hr⟩)
 split at h
 ·obtain⟨S1,h1,h⟩:=Yi.1 h;cases h;exact (R.wt T.d h1).st (T.pc _)
 obtain⟨⟨S1,t1⟩,h1,h⟩:=Yi.1 h;have H1:RS S1∧RT t1:=by
  split at h1
  ·obtain⟨b,hb,h1⟩:=Yi.1 h1;obtain⟨S2,h2,h1⟩:=Yi.1 h1;cases h1;exact⟨R.wt Rn.shape h2,T⟩
  split at h1
  ·obtain⟨b,hb,h1⟩:=Yi.1 h1;obtain⟨S2,h2,h1⟩:=Yi.1 h1;obtain⟨n,hn,h1⟩:=Yi.1 h1;cases h1;exact⟨R.wt Rn.zero h2,⟨T.r,T.h,T.g,T.k,T.u,T.v,T.w,T.d⟩⟩
  ·cases h1;exact⟨R,T⟩
 obtain⟨R1,T1⟩:=H1;dsimp only at h;split at h
 ·obtain⟨S2,h2,h⟩:=Yi.1 h;exact ((R1.st (T1.pc 33)).tp h2).pu T1.d h
 ·cases h;exact R1.st (T1.pc 33)
theorem RS.load (R:RS S) (hv:Rn v) (h:S.load i v = some S'):RS S':=by
 unfold Sim.load at h;obtain⟨t,ht,h⟩:=Yi.1 h;have T:=R.t _ (CY ht);split at h
 ·exact R.pu T.v h
 obtain⟨f,hf,h⟩:=Yi.1 h;split at h
 ·exact R.pu hv h
 ·cases h;exact R.st ⟨T.r,T.h,T.g,T.k,hv,hv,T.w,T.d⟩
theorem RS.swap (R:RS S) (hv:Rn v) (h:S.swap i v = some S'):RS S':=by
 unfold Sim.swap at h;obtain⟨t,ht,h⟩:=Yi.1 h;have T:=R.t _ (CY ht);split at h
 ·exact R.ev h
 dsimp only at h;obtain⟨f,hf,h⟩:=Yi.1 h;split at h
 ·cases h;exact R.st ⟨T.r,T.h,T.g,T.k,hv,hv,T.w,T.d⟩
 split at h
 ·exact R.ev h
 obtain⟨S1,h1,h⟩:=Yi.1 h;cases h;exact (R.od h1).st ⟨T.r,T.h,T.g,T.k,hv,T.v,T.w,T.d⟩
theorem RS.shape (R:RS S) (h:S.shape i = some S'):RS S':=by
 unfold Sim.shape at h;obtain⟨t,ht,h⟩:=Yi.1 h;have T:=R.t _ (CY ht);split at h
 ·cases h
 obtain⟨o,ho,h⟩:=Yi.1 h;split at h
 ·exact R.ev h
 split at h
 ·split at h
  ·exact R.ev h
  ·exact RS.ev (by exact⟨R.w,R.t,R.c,R.o⟩) h
 obtain⟨b,hb,h⟩:=Yi.1 h;obtain⟨⟨w,S1⟩,h1,h⟩:=Yi.1 h;obtain⟨hw,R1,_⟩:=R.rd h1;dsimp only at h;split at h
 ·exact R1.ev h
 ·cases h;exact R1.st ⟨T.r,T.h,T.g,T.k,T.u,T.v,T.w,T.d⟩
theorem RS.field (R:RS S) (h:S.field i = some S'):RS S':=by
 unfold Sim.field at h;obtain⟨t,ht,h⟩:=Yi.1 h;have T:=R.t _ (CY ht);obtain⟨o,ho,h⟩:=Yi.1 h;obtain⟨b1,hb1,h⟩:=Yi.1 h;obtain⟨ref,hb2,h⟩:=Yi.1 h;obtain⟨b3,hb3,h⟩:=Yi.1 h;obtain⟨num,hb4,h⟩:=Yi.1 h;split at h
 ·obtain⟨⟨w,S1⟩,h1,h⟩:=Yi.1 h;obtain⟨hw,R1,_⟩:=R.rd h1;exact R1.load hw h
 split at h
 ·obtain⟨⟨w,S1⟩,h1,h⟩:=Yi.1 h;obtain⟨hw,R1,_⟩:=R.rd h1;obtain⟨S2,h2,h⟩:=Yi.1 h;cases h;exact (R1.od h2).st (T.pc _)
 split at h
 ·obtain⟨S1,h1,h⟩:=Yi.1 h;exact (R.wt T.g h1).ev h
 split at h
 ·obtain⟨S1,h1,h⟩:=Yi.1 h;exact (R.wt (R.op ho) h1).ev h
 split at h
 ·obtain⟨⟨w,S1⟩,h1,h⟩:=Yi.1 h;obtain⟨hw,R1,_⟩:=R.rd h1;exact R1.ev h
 split at h
 ·obtain⟨⟨w,S1⟩,h1,h⟩:=Yi.1 h;obtain⟨hw,R1,_⟩:=R.rd h1;exact R1.swap hw h
 split at h
 ·obtain⟨⟨w,S1⟩,h1,h⟩:=Yi.1 h;obtain⟨hw,R1,_⟩:=R.rd h1;dsimp only at h;split at h
  ·obtain⟨S2,h2,h⟩:=Yi.1 h;exact (R1.wt T.k h2).ev h
  ·cases h;exact R1.st (T.pc _)
 split at h
 ·split at h
  ·cases h;exact R.st (T.pc _)
  ·obtain⟨⟨w,S1⟩,h1,h⟩:=Yi.1 h;obtain⟨hw,R1,_⟩:=R.rd h1;exact R1.swap hw h
 ·cases h;exact R
theorem RS.tstep (R:RS S) (h:S.tstep i = some S'):RS S':=by
 unfold Sim.tstep at h;obtain⟨t,ht,h⟩:=Yi.1 h;split at h
 ·exact R.resolve h
 split at h
 ·exact R.shape h
 split at h
 ·exact R.making h
 split at h
 ·exact R.copying h
 ·exact R.field h
theorem RS.tloop:∀(n:Nat) {S S' : Sim},RS S→Sim.tloop n S i = some S'→RS S'
 | 0,_,_,_,h=>by cases h
 | n + 1,S,S',R,h=>by
  unfold Sim.tloop at h;obtain⟨t,ht,h⟩:=Yi.1 h;split at h
  ·cases h;exact R
  ·obtain⟨S1,h1,h⟩:=Yi.1 h;exact RS.tloop n (R.tstep h1) h
theorem RS.thread {n:Nat} (R:RS S) (h:S.thread n i = some S'):RS S':=by
 unfold Sim.thread at h;obtain⟨t,ht,h⟩:=Yi.1 h;split at h
 ·split at h
  ·cases h;exact R
  ·obtain⟨p,hp,h⟩:=Yi.1 h;split at h
   ·exact R.begin_ h
   ·cases h;exact R
 ·exact RS.tloop n (by exact⟨R.w,R.t,R.c,R.o⟩) h
end
section
variable {S S' : Sim} {i a v:Int}
theorem RS.sc (R:RS S) {c:Col} (hc:RC c):RS (S.setC c):=⟨R.w,R.t,hc,R.o⟩
theorem RC.zero (a:Bool) (n:Int):RC (CR a n):=⟨Rn.zero,Rn.zero⟩
theorem RS.mark (R:RS S) (h:S.mark = some S'):RS S':=by
 unfold Sim.mark at h;split at h
 ·cases h
 dsimp only at h;split at h
 ·split at h
  ·cases h;exact⟨R.w,R.t,⟨R.c.w,R.c.d⟩,R.o⟩
  ·cases h;exact⟨R.w,R.t,⟨R.c.w,R.c.d⟩,R.o⟩
 obtain⟨b,hb,h⟩:=Yi.1 h;obtain⟨row,hrow,h⟩:=Yi.1 h;obtain⟨c,hc,h⟩:=Yi.1 h;split at h
 ·obtain⟨p1,hp,h⟩:=Yi.1 h;obtain⟨⟨w,S1⟩,h1,h⟩:=Yi.1 h;obtain⟨hw,R1,_⟩:=RS.rd (by exact⟨R.w,R.t,R.c,R.o⟩) h1;dsimp only at h;obtain⟨lv,hl,h⟩:=Yi.1 h;cases h;exact⟨R1.w,R1.t,⟨R.c.w,R.c.d⟩,R1.o⟩
 ·cases h;exact⟨R.w,R.t,⟨R.c.w,R.c.d⟩,R.o⟩
theorem RS.look (R:RS S) (h:S.look = some S'):RS S':=by
 unfold Sim.look at h;split at h
 ·cases h
 dsimp only at h;obtain⟨b,hb,h⟩:=Yi.1 h;obtain⟨b2,hb2,h⟩:=Yi.1 h;obtain⟨⟨w,S1⟩,h1,h⟩:=Yi.1 h;obtain⟨hw,R1,_⟩:=R.rd h1;dsimp only at h;obtain⟨n,hn,h⟩:=Yi.1 h;cases h;exact⟨R1.w,R1.t,⟨R.c.w,R.c.d⟩,R1.o⟩
theorem RS.walk (R:RS S) (h:S.walk = some S'):RS S':=by
 unfold Sim.walk at h;dsimp only at h;obtain⟨⟨r,p⟩,hb,h⟩:=Yi.1 h;dsimp only at h;split at h
 ·cases h;exact⟨R.w,R.t,⟨R.c.w,R.c.d⟩,R.o⟩
 obtain⟨q,hq,h⟩:=Yi.1 h;obtain⟨⟨w,S1⟩,h1,h⟩:=Yi.1 h;obtain⟨hw,R1,_⟩:=R.rd h1;dsimp only at h;cases h;refine R1.sc ?_;split
 ·exact⟨R.c.w,R.c.d⟩
 ·exact⟨R.c.w,R.c.d⟩
theorem RS.carry (R:RS S) (h:S.carry = some S'):RS S':=by
 unfold Sim.carry at h;dsimp only at h;split at h
 ·obtain⟨b,hb,h⟩:=Yi.1 h;obtain⟨⟨w,S1⟩,h1,h⟩:=Yi.1 h;obtain⟨hw,R1,_⟩:=R.rd h1;dsimp only at h;split at h
  ·cases h;exact⟨R1.w,R1.t,R1.c,R1.o⟩
  ·rename_i hr;cases h;exact⟨R1.w,R1.t,⟨R.c.w,Rn.room hr⟩,R1.o⟩
 split at h
 ·obtain⟨b,hb,h⟩:=Yi.1 h;obtain⟨⟨w,S1⟩,h1,h⟩:=Yi.1 h;obtain⟨hw,R1,_⟩:=R.rd h1;cases h;exact R1.sc ⟨hw,R.c.d⟩
 split at h
 ·obtain⟨b,hb,h⟩:=Yi.1 h;obtain⟨S1,h1,h⟩:=Yi.1 h;have R1:=R.wt R.c.w h1;obtain⟨n,hn,h⟩:=Yi.1 h;cases h;exact R1.sc ⟨R.c.w,R.c.d⟩
 split at h
 ·obtain⟨S1,h1,h⟩:=Yi.1 h;have R1:=R.wt R.c.d h1;cases h;exact R1.sc ⟨R.c.w,R.c.d⟩
 split at h
 ·obtain⟨⟨w,S1⟩,h1,h⟩:=Yi.1 h;obtain⟨hw,R1,_⟩:=R.rd h1;dsimp only at h;obtain⟨S2,h2,h⟩:=Yi.1 h;have R2:RS S2:=by
   split at h2
   ·obtain⟨S3,h3,h2⟩:=Yi.1 h2;exact (R1.wt R.c.d h3).tp h2
   ·cases h2;exact R1
  cases h;exact R2.sc ⟨R.c.w,R.c.d⟩
 ·cases h;exact R
theorem RC.then_ {x y:Col} (hx:RC x) (h:Fm x = some y):RC y:=by
 unfold Fm at h;obtain⟨n,hn,h⟩:=Yi.1 h;cases h;exact⟨hx.w,hx.d⟩
theorem RS.renew (R:RS S) (h:S.renew = some S'):RS S':=by
 unfold Sim.renew at h;dsimp only at h;split at h
 ·obtain⟨⟨r,p⟩,hb,h⟩:=Yi.1 h;dsimp only at h;split at h
  ·cases h;exact⟨R.w,R.t,⟨R.c.w,R.c.d⟩,R.o⟩
  obtain⟨q,hq,h⟩:=Yi.1 h;obtain⟨⟨w,S1⟩,h1,h⟩:=Yi.1 h;obtain⟨hw,R1,_⟩:=R.rd h1;dsimp only at h;obtain⟨q2,hq2,h⟩:=Yi.1 h;obtain⟨row,hrow,h⟩:=Yi.1 h;obtain⟨go,hgo,h⟩:=Yi.1 h;cases h;refine R1.sc ?_;split
  ·exact⟨R.c.w,R.c.d⟩
  ·exact⟨R.c.w,R.c.d⟩
 split at h
 ·obtain⟨b,hb,h⟩:=Yi.1 h;obtain⟨b2,hb2,h⟩:=Yi.1 h;obtain⟨⟨w,S1⟩,h1,h⟩:=Yi.1 h;obtain⟨hw,R1,_⟩:=R.rd h1;dsimp only at h;obtain⟨f,hf,h⟩:=Yi.1 h;split at h
  ·cases h;exact R1.sc ⟨R.c.w,R.c.d⟩
  ·obtain⟨y,hy,h⟩:=Yi.1 h;cases h;exact R1.sc (RC.then_ (by exact⟨R.c.w,R.c.d⟩) hy)
 split at h
 ·obtain⟨⟨w,S1⟩,h1,h⟩:=Yi.1 h;obtain⟨hw,R1,_⟩:=R.rd h1;dsimp only at h;split at h
  ·obtain⟨y,hy,h⟩:=Yi.1 h;cases h;exact R1.sc (RC.then_ (by exact⟨hw,R.c.d⟩) hy)
  ·cases h;exact R1.sc ⟨hw,R.c.d⟩
 split at h
 ·obtain⟨b,hb,h⟩:=Yi.1 h;obtain⟨b2,hb2,h⟩:=Yi.1 h;obtain⟨⟨w,S1⟩,h1,h⟩:=Yi.1 h;obtain⟨hw,R1,_⟩:=R.rd h1;dsimp only at h;obtain⟨S2,h2,h⟩:=Yi.1 h;have R2:RS S2:=by
   split at h2
   ·exact R1.wt R.c.w h2
   ·cases h2;exact R1
  obtain⟨y,hy,h⟩:=Yi.1 h;cases h;exact R2.sc (RC.then_ R.c hy)
 ·cases h;exact R
theorem RS.work (R:RS S) (h:S.work = some S'):RS S':=by
 unfold Sim.work at h;split at h
 ·exact R.mark h
 split at h
 ·exact R.look h
 split at h
 ·exact R.walk h
 split at h
 ·exact R.carry h
 ·exact R.renew h
theorem RS.cloop:∀(n:Nat) {S S' : Sim},RS S→Sim.cloop n S = some S'→RS S'
 | 0,_,_,_,h=>by cases h
 | n + 1,S,S',R,h=>by
  unfold Sim.cloop at h;split at h
  ·obtain⟨S1,h1,h⟩:=Yi.1 h;exact RS.cloop n (R.work h1) h
  ·cases h;exact R
theorem RS.idle (R:RS S) (h:S.idle = some S'):RS S':=by
 unfold Sim.idle at h;obtain⟨n,hn,h⟩:=Yi.1 h;cases h;exact⟨R.w,R.t,RC.zero _ _,R.o⟩
theorem RS.drain:∀(n:Nat) {S S' : Sim},RS S→Sim.drain n S = some S'→RS S'
 | 0,_,_,_,h=>by cases h
 | n + 1,S,S',R,h=>by
  unfold Sim.drain at h;split at h
  ·cases h
  split at h
  ·dsimp only at h;split at h
   ·obtain⟨S1,h1,h⟩:=Yi.1 h;exact RS.drain n (R.look h1) h
   ·obtain⟨S1,h1,h⟩:=Yi.1 h;exact RS.drain n (R.mark h1) h
  ·cases h;exact R
theorem RS.choose {n:Nat} (R:RS S) (h:S.choose n = some S'):RS S':=by
 unfold Sim.choose at h;obtain⟨S1,h1,h⟩:=Yi.1 h;have R1:=RS.drain n R h1;dsimp only at h;obtain⟨t,ht,h⟩:=Yi.1 h;split at h
 ·exact RS.idle (by exact⟨R1.w,R1.t,R1.c,R1.o⟩) h
 ·cases h;exact⟨R1.w,R1.t,⟨Rn.zero,Rn.zero⟩,R1.o⟩
theorem RS.rootsF (R:RS S):∀{l l' : List Int},(∀a∈l,Rn a)→S.rootsF l = some l'→∀a∈l',Rn a
 | [],l',_,h=>by cases h;simp
 | a :: r,l',hl,h=>by
  unfold Sim.rootsF at h;obtain⟨f,hf,h⟩:=Yi.1 h;obtain⟨b,hb,h⟩:=Yi.1 h;obtain⟨l2,h2,h⟩:=Yi.1 h;cases h;have ih:=RS.rootsF R (λx hx=>hl x (by simp[hx])) h2;intro x hx;rcases Yw.1 hx with rfl | hx
  ·split at hb
   ·exact R.w _ (CY hb)
   ·cases hb;exact hl _ (by simp)
  ·exact ih x hx
theorem RS.thsF (R:RS S):∀{l l' : List Thr},(∀t∈l,RT t)→S.thsF l = some l'→∀t∈l',RT t
 | [],l',_,h=>by cases h;simp
 | t :: r,l',hl,h=>by
  unfold Sim.thsF at h;obtain⟨b,hb,h⟩:=Yi.1 h;obtain⟨l2,h2,h⟩:=Yi.1 h;cases h;have ih:=RS.thsF R (λx hx=>hl x (by simp[hx])) h2;have T:=hl t (by simp);intro x hx;rcases Yw.1 hx with rfl | hx
  ·exact⟨R.rootsF T.r hb,T.h,T.g,T.k,T.u,T.v,T.w,T.d⟩
  ·exact ih x hx
theorem RS.finish (R:RS S) (h:S.finish = some S'):RS S':=by
 unfold Sim.finish at h;obtain⟨th,h1,h⟩:=Yi.1 h;exact RS.idle (by exact⟨R.w,R.thsF R.t h1,R.c,R.o⟩) h
theorem RS.update (R:RS S) (h:S.update = some S'):RS S':=by
 unfold Sim.update at h;obtain⟨_,h1,h⟩:=Yi.1 h;cases h;exact⟨R.w,R.t,⟨Rn.zero,Rn.zero⟩,R.o⟩
end
def Rth (l:List AZ):Prop:=∀x∈l,Rn x.at_∧∀n∈x.nums,Rn n
theorem Rn.at_ {w:List Int} {a:Int} (hw:∀x∈w,Rn x) (h:(BB w a).2 = true):Rn (BB w a).1.at_∧∀n∈(BB w a).1.nums,Rn n:=by
 unfold BB at h ⊢;split
 ·rename_i hf;rw[if_pos hf] at h;dsimp only at h ⊢;split
  ·refine⟨?_,λn hn=>hw n (aF (ZL hn))⟩;unfold fits BJ at hf;simp only[z_b,z_d] at hf;show Rn a;unfold Rn;omega
  ·exact⟨Rn.zero,by simp[CD]⟩
 ·exact⟨Rn.zero,by simp[CD]⟩
theorem Rth.from_ {w:List Int} (hw:∀x∈w,Rn x):∀(n:Nat) {a t:Int} {l:List AZ},Ay w n a t = some l→Rth l
 | 0,a,t,l,h=>by
  unfold Ay at h;split at h
  ·cases h
  ·cases h;intro x hx;cases hx
 | n + 1,a,t,l,h=>by
  unfold Ay at h;split at h
  ·dsimp only at h;split at h
   ·rename_i hc;split at h
    ·rename_i hr;cases h;intro x hx;rcases Yw.1 hx with rfl | hx
     ·exact Rn.at_ hw (by simp only[z_b] at hc;exact hc.1)
     ·exact Rth.from_ hw n hr x hx
    ·cases h
   ·cases h
  ·cases h;intro x hx;cases hx
theorem Rth.all {w:List Int} (hw:∀x∈w,Rn x):∀(t:List Rg) (r:Nat) {l:List AZ},Bg w r t = some l→Rth l
 | [],r,l,h=>by cases h;intro x hx;cases hx
 | x :: t,r,l,h=>by
  unfold Bg at h;split at h
  ·cases h
  ·rename_i a ha;split at h
   ·cases h
   ·rename_i b hb;cases h;have h1:Rth a:=by
     unfold BL at ha;split at ha
     ·exact Rth.from_ hw _ ha
     ·cases ha
    have h2:=Rth.all hw t (r + 1) hb;intro y hy;exact (ZD.1 hy).elim (h1 y) (h2 y)
def Rw_ (w:List Int):Prop:=∀x∈w,Rn x
def Rtt (t:List Rg):Prop:=∀x∈t,Rn x.top
theorem Rw_.wr {w w' : List Int} {a v:Int} (R:Rw_ w) (hv:Rn v) (h:Sm.wr w a v = some w'):Rw_ w':=by
 unfold Sm.wr at h;split at h
 ·cases h;exact λx hx=>(EJ hx).elim (R x) λe=>e▸hv
 ·cases h
theorem Rw_.wrs:∀(l:List Int) {w w' : List Int} {a:Int},Rw_ w→(∀x∈l,Rn x)→Sm.wrs w a l = some w'→Rw_ w'
 | [],w,w',a,R,_,h=>by cases h;exact R
 | v :: l,w,w',a,R,hl,h=>by
  unfold Sm.wrs at h;obtain⟨w1,h1,h⟩:=Yi.1 h;exact Rw_.wrs l (R.wr (hl v (by simp)) h1) (λx hx=>hl x (by simp[hx])) h
theorem Oi {l:List AZ} {a:Int} {x:AZ} (h:BW l a = some x):x∈l∧x.at_ = a:=by
 unfold BW at h;exact⟨aX h,by simpa using List.find?_some h⟩
theorem Rw_.stay (s:B7) (hs:Rtt s.A0):∀(l:List AZ) {w w' : List Int} {t t' : List Rg},Rth l→Rw_ w→Rtt t→Sm.stay s l w t = some (w',t')→Rw_ w'∧Rtt t'
 | [],w,w',t,t',_,R,T,h=>by cases h;exact⟨R,T⟩
 | x :: l,w,w',t,t',hl,R,T,h=>by
  unfold Sm.stay at h;dsimp only at h;have hl2:Rth l:=λy hy=>hl y (by simp[hy])
  obtain⟨q1,q2⟩:=hl x (by simp);split at h
  ·obtain⟨w1,h1,h⟩:=Yi.1 h;obtain⟨w2,h2,h⟩:=Yi.1 h;obtain⟨w3,h3,h⟩:=Yi.1 h;obtain⟨row,hr,h⟩:=Yi.1 h;obtain⟨_,_,h⟩:=Yi.1 h;refine Rw_.stay s hs l hl2 (Rw_.wrs _ ((R.wr q1 h1).wr Rn.shape h2) q2 h3) (λy hy=>?_) h;rcases EJ hy with hy | hy
   ·exact T y hy
   ·rw[hy];exact hs row (CY hr)
  ·exact Rw_.stay s hs l hl2 R T h
theorem Vm {a b c:Int} (h:Ch a b = some c):Rn c:=by
 unfold Ch at h;split at h
 ·cases h;rename_i q;exact q
 ·cases h
theorem Rw_.slide (AO:List Int) {l:List AZ} (hl:Rth l):∀(AQ:List Int) {t t' : List Rg} {r:Int} {to to' : List Int},Rtt t→(∀d∈to,Rn d)→Sm.slide AO l AQ t r to = some (t',to')→∀d∈to',Rn d
 | [],t,t',r,to,to',T,ht,h=>by cases h;exact ht
 | a :: AQ,t,t',r,to,to',T,ht,h=>by
  unfold Sm.slide at h;obtain⟨x,hx,h⟩:=Yi.1 h;obtain⟨hm,he⟩:=Oi hx;dsimp only at h;split at h
  ·refine Rw_.slide AO hl AQ T (λd hd=>?_) h;rcases ZD.1 hd with hd | hd
   ·exact ht d hd
   ·rw[Z3.1 hd,← he];exact (hl x hm).1
  obtain⟨r2,hr2,h⟩:=Yi.1 h;obtain⟨row,hrow,h⟩:=Yi.1 h;obtain⟨top,htop,h⟩:=Yi.1 h;refine Rw_.slide AO hl AQ (λy hy=>(EJ hy).elim (T y) λe=>e▸Vm htop) (λd hd=>?_) h;rcases ZD.1 hd with hd | hd
  ·exact ht d hd
  ·rw[Z3.1 hd];exact T row (CY hrow)
theorem Rw_.refs {l:List AZ} {AQ to:List Int} (ht:∀d∈to,Rn d):∀(r:List Int) {w w' : List Int} {a:Int},Rw_ w→Gu l AQ to w a r = some w'→Rw_ w'
 | [],w,w',a,R,h=>by cases h;exact R
 | v :: r,w,w',a,R,h=>by
  unfold Gu at h;obtain⟨n,hn,h⟩:=Yi.1 h;dsimp only at h;obtain⟨w1,h1,h⟩:=Yi.1 h;refine Rw_.refs ht r ?_ h;split at h1
  ·obtain⟨d,hd,h1⟩:=Yi.1 h1;exact R.wr (ht d (CY hd)) h1
  ·cases h1;exact R
theorem Rw_.move {l:List AZ} (hl:Rth l) {AQ to:List Int} (ht:∀d∈to,Rn d):∀(la ld:List Int) {w w' : List Int},Rw_ w→(∀d∈ld,Rn d)→GE l AQ to la ld w = some w'→Rw_ w'
 | [],ld,w,w',R,_,h=>by unfold GE at h;cases h;exact R
 | a :: la,[],w,w',R,_,h=>by unfold GE at h;cases h;exact R
 | a :: la,d :: ld,w,w',R,hd,h=>by
  unfold GE at h;obtain⟨x,hx,h⟩:=Yi.1 h;obtain⟨w1,h1,h⟩:=Yi.1 h;obtain⟨w2,h2,h⟩:=Yi.1 h;obtain⟨w3,h3,h⟩:=Yi.1 h;obtain⟨w4,h4,h⟩:=Yi.1 h;have R2:=(R.wr (hd d (by simp)) h1).wr Rn.shape h2;exact Rw_.move hl ht la ld (Rw_.wrs _ (Rw_.refs ht _ R2 h3) (hl x (Oi hx).1).2 h4) (λy hy=>hd y (by simp[hy])) h
theorem Rw_.AD {l:List AZ} {AQ to:List Int} (ht:∀d∈to,Rn d):∀(r:List Int) {r' : List Int},DA l AQ to r = some r'→∀a∈r',Rn a
 | [],r',h=>by cases h;simp
 | a :: r,r',h=>by
  unfold DA at h;obtain⟨n,hn,h⟩:=Yi.1 h;dsimp only at h;obtain⟨b,hb,h⟩:=Yi.1 h;obtain⟨r2,h2,h⟩:=Yi.1 h;cases h;have ih:=Rw_.AD ht r h2;intro x hx;rcases Yw.1 hx with rfl | hx
  ·split at hb
   ·cases hb;exact Rn.zero
   ·exact ht _ (CY hb)
  ·exact ih x hx
theorem Rw_.ths {l:List AZ} {AQ to:List Int} (ht:∀d∈to,Rn d):∀(r:List Th) {r' : List Th},Da l AQ to r = some r'→∀t∈r',∀a∈t.AD,Rn a
 | [],r',h=>by cases h;simp
 | t :: r,r',h=>by
  unfold Da at h;obtain⟨ro,hro,h⟩:=Yi.1 h;obtain⟨r2,h2,h⟩:=Yi.1 h;cases h;have ih:=Rw_.ths ht r h2;intro x hx;rcases Yw.1 hx with rfl | hx
  ·exact Rw_.AD ht _ hro
  ·exact ih x hx
theorem Rtt.new (n:Int):Rtt (AU n):=by
 unfold AU;split
 ·intro x hx;cases hx
 ·intro x hx;rcases Yw.1 hx with rfl | hx
  ·exact Rn.zero
  ·obtain⟨k,hk,rfl⟩:=ZU.1 hx;show Rn (AM _);unfold AM;split
   ·exact Rn.zero
   ·unfold Rn;omega
theorem VT {s s' : B7} (hw:Rw_ s.AB) (ht:Rtt s.A0) (h:HA s = some s'):Rw_ s'.AB∧∀t∈s'.AA,∀a∈t.AD,Rn a:=by
 unfold HA at h;dsimp only at h;obtain⟨lv,h1,h⟩:=Yi.1 h;obtain⟨⟨w1,t1⟩,h2,h⟩:=Yi.1 h;obtain⟨⟨t2,to⟩,h3,h⟩:=Yi.1 h;obtain⟨w2,h4,h⟩:=Yi.1 h;obtain⟨th,h5,h⟩:=Yi.1 h;obtain⟨fu,h6,h⟩:=Yi.1 h;cases h;have hl:Rth ((BE s).getD []):=by
  cases hs:BE s with
  | none=>intro x hx;cases hx
  | some l=>exact Rth.all hw _ _ hs
 obtain⟨a1,a2⟩:=Rw_.stay s ht _ hl (λx hx=>by rw[(Za.1 hx).2];exact Rn.zero) (Rtt.new _) h2;have a3:=Rw_.slide s.AO hl _ a2 (λd hd=>by cases hd) h3;exact⟨Rw_.move hl a3 _ _ a1 a3 h4,Rw_.ths a3 _ h5⟩
section
variable {S S' : Sim} {i a v:Int}
theorem RS.pause {n:Nat} (R:RS S) (T:Rtt S.A0) (h:S.pause n = some S'):RS S':=by
 unfold Sim.pause at h;split at h
 ·cases h
 split at h
 ·obtain⟨s,h1,h⟩:=Yi.1 h;cases h;obtain⟨a1,a2⟩:=VT (s:=S.view) R.w T h1;refine⟨a1,λt ht=>?_,RC.zero _ _,R.o⟩;obtain⟨t',ht',rfl⟩:=ZU.1 ht;exact RT.thr0 (a2 t' ht')
 dsimp only at h;have R1:RS { S with stop:=false }:=⟨R.w,R.t,R.c,R.o⟩;split at h
 ·cases h;exact⟨R.w,R.t,⟨Rn.zero,Rn.zero⟩,R.o⟩
 split at h
 ·exact R1.choose h
 split at h
 ·exact R1.update h
 ·exact R1.finish h
theorem RS.pick (R:RS S) (T:Rtt S.A0) {p:Int} (h:S.pick p = some S'):RS S':=by
 unfold Sim.pick at h;split at h
 ·exact R.thread h
 split at h
 ·unfold Sim.collector at h;split at h
  ·split at h
   ·exact R.pause T h
   ·cases h;exact R
  split at h
  ·split at h
   ·cases h;exact⟨R.w,R.t,⟨R.c.w,R.c.d⟩,R.o⟩
   ·cases h;exact R
  ·exact RS.cloop _ (by exact⟨R.w,R.t,R.c,R.o⟩) h
 split at h
 ·cases h;exact⟨R.w,R.t,⟨R.c.w,R.c.d⟩,R.o⟩
 ·cases h;exact R
theorem WI {t:List Rg} (T:TOk t):Rtt t:=by
 intro x hx;obtain⟨k,hk,rfl⟩:=ZH hx;have n1:=T.n1;have e:rv t k = t[k]:=FH hk;by_cases h0:k = 0
 ·subst h0;have h2:=T.e;rw[show (0:Int) = ((0:Nat):Int) from rfl,e] at h2;rw[h2];exact Rn.zero
 ·have r:=T.row k (by omega) (by omega);rw[e] at r;have t0:=r.t0;have t1:=r.t1;unfold Rn;omega
theorem Ov {P:List (List Op)}:∀(ps:List Int) (c:Nat) (S S' : Sim) (g:Gh),c + 5 * ps.length < 900000→IG P S g→Bd c S→RS S→Sim.picks ps S = some S'→RS S'
 | [],c,S,S',g,_,_,_,R,h=>by cases h;exact R
 | p :: r,c,S,S',g,hc,I,B,R,h=>by
  simp only[Z8] at hc;obtain⟨S1,g1,e1,I1,B1⟩:=NW (p:=p) (by omega) I B;unfold Sim.picks at h;obtain⟨S2,h2,h⟩:=Yi.1 h;rw[e1] at h2;cases h2;exact Ov r (c + 5) _ S' g1 (by omega) I1 B1 (R.pick (WI I.sh.g.ok) e1) h
theorem V4 {c:Cfg} {AX:List (List Op)} (ho:∀p∈AX,∀o∈p,Rn o.v):RS (start c AX):=by
 refine⟨?_,λt ht=>?_,RC.zero _ _,ho⟩
 ·show ∀x∈(CF (List.replicate (c.AC.toNat * 16) 0) 16 Bp).1,Rn x;unfold CF;split
  ·intro x hx;unfold put at hx;have hall' : Am Bp = 66:=by decide
   rw[hall'] at hx;simp only[ZD,Yw,Z3,List.not_mem_nil,or_false] at hx;rcases hx with (hx | (rfl | rfl) | hx) | hx
   ·rw[(Za.1 (ZL hx)).2];exact Rn.zero
   ·unfold Rn;omega
   ·unfold Rn;omega
   ·rw[(Za.1 hx).2];exact Rn.zero
   ·rw[(Za.1 (aF hx)).2];exact Rn.zero
  ·intro x hx;cases hx
 ·rw[(Za.1 ht).2];exact RT.thr0 (λa ha=>by rw[Z3.1 ha];unfold Rn;omega)
end
end Sm
end
section
namespace Go.Lf
open Go Sm
def sel (l:List Int) (x:Int):Int:=l.getD x.toNat 0
theorem B9 (l:List Int) {x:Int} (h0:0≤x) (h1:x < l.length):(l.map I)[0 + x.toNat * 1]? = some (I (sel l x)):=by
 have:x.toNat < l.length:=by omega
 simp[sel,this]
theorem Ul {l:List Int} {x:Int} (h0:0≤x) (h1:x < l.length):sel l x∈l:=by
 have:x.toNat < l.length:=by omega
 simp[sel,this]
theorem jsb {R:RM} {D:Chs} {v:Value} {w n:Nat} {u:Int} {k:Value→M} (h:Bsl R v n) (h0:0≤u) (h1:u≤n) (H:∀v',Bsl R v' u.toNat→J R D (k v')):J R D (SL w v none (some (I u)) k):=by
 obtain⟨a,cap,rfl,hn,h2⟩:=h;intro h' hs;refine⟨⟨h0,by omega⟩,H _ ⟨a,cap,rfl,by omega,?_⟩ h' hs⟩;rcases h2 with h3 | ⟨b,o,h2,h3⟩
 ·exact .inl (by omega)
 ·exact .inr ⟨b,o,h2,λi hi=>h3 i (by omega)⟩
theorem Bsl.sl {R:RM} {v:Value} {n:Nat} (h:Bsl R v n):∃a c,v = .slice a n c:=by obtain⟨a,c,h1,_⟩:=h;exact⟨a,c,h1⟩
theorem YV {R:RM} {D:Chs} {v:Value} {w n:Nat} {cells:List Value} {u:Int} {k:Value→M} (h:Fz R v w n cells) (h0:0≤u) (h1:u≤n) (H:∀v',Fz R v' w u.toNat (cells.take (u.toNat * w))→J R D (k v')):J R D (SL w v none (some (I u)) k):=by
 rcases h with ⟨rfl,h2,h3⟩ | ⟨b,o,cap,t,cs,rfl,h2,h3,h4,h5⟩
 ·intro h' hs;refine⟨⟨h0,by omega⟩,H _ ?_ h' hs⟩;have:u = 0:=by omega
  subst this;exact .inl ⟨rfl,rfl,by simp⟩
 ·intro h' hs;refine⟨⟨h0,by omega⟩,H _ ?_ h' hs⟩;have hm:u.toNat * w≤n * w:=aE w (by omega);exact .inr ⟨b,o,cap,t,cs,rfl,h2,by omega,by rw[← h4,aV];congr 1;omega,by omega⟩
def Dr (f:Nat) (args:List Value) (R:RM) (rb:Nat) (v:Value) (m c:Int) (q:Value→RM→Prop):Prop:=
 Fn P f args R [(rb,rdO v m)] (λx R' A=>R.le R'∧q x R'∧∃m',m≤m'∧m'≤m + c∧A = [(rb,rdO v m')])
theorem jdr {R:RM} {D E:Chs} {f rb:Nat} {args:List Value} {v:Value} {m c:Int} {q:Value→RM→Prop} {k:Value→M} (hF:Dr f args R rb v m c q) [t:Tk D rb (rdO v m) E] (H:∀x R' m',R.le R'→q x R'→m≤m'→m'≤m + c→J R' ((rb,rdO v m') :: E) (k x)) :
  J R D (CA P f args k):=by
 refine jc (A:=[(rb,rdO v m)]) (F:=E) (s:=⟨t.p⟩) hF ?_;rintro x R' _ _ ⟨h1,h2,m',h3,h4,rfl⟩;exact H x R' m' h1 h2 h3 h4
theorem EO {R R' : RM} {D E F:Chs} {rb:Nat} {v x:Value} {m c:Int} {q:Value→RM→Prop} (m' : Int) [t:Tk D rb (rdO v m') E] [s:Sf E F] (h1:R.le R') (h2:q x R') (h3:m≤m') (h4:m'≤m + c) :
  J R' D (Er R F (λx R' A=>R.le R'∧q x R'∧∃m',m≤m'∧m'≤m + c∧A = [(rb,rdO v m')]) x):=by
 intro h hs;exact BA (D:=(rb,rdO v m') :: E) (A:=[(rb,rdO v m')]) h1 ⟨h1,h2,m',h3,h4,rfl⟩ h (hs.perm t.p)
theorem jk1 {R:RM} {D G F:Chs} {o:Obj} {m:M} (b:Nat) [t:Tk D b o G] [s:Sf G F] (H:J R ((b,o) :: F) m):J R D m:=by
 intro h hs;obtain⟨X,hX⟩:=s.p;subst hX;exact H h (((hs.perm t.p).perm ZG.symm).drop)
theorem jk2 {R:RM} {D E G F:Chs} {o o' : Obj} {m:M} (b c:Nat) [t:Tk D b o E] [u:Tk E c o' G] [s:Sf G F] (H:J R ((b,o) :: (c,o') :: F) m):J R D m:=by
 intro h hs;have h1:=(hs.perm t.p).perm (u.p.cons _);obtain⟨X,hX⟩:=s.p;subst hX;have:=aB (l₁:=[(b,o),(c,o')]) (l₂:=X);have:=this.append_right F;exact H h (h1.perm (by simpa using this)).drop
theorem jk3 {R:RM} {D E G H' F:Chs} {o o' o2:Obj} {m:M} (b c d:Nat) [t:Tk D b o E] [u:Tk E c o' G] [w:Tk G d o2 H'] [s:Sf H' F] (H:J R ((b,o) :: (c,o') :: (d,o2) :: F) m):J R D m:=by
 intro h hs;have h1:=((hs.perm t.p).perm (u.p.cons _)).perm ((w.p.cons _).cons _);obtain⟨X,hX⟩:=s.p;subst hX;have:=aB (l₁:=[(b,o),(c,o'),(d,o2)]) (l₂:=X);have:=this.append_right F;exact H h (h1.perm (by simpa using this)).drop
theorem V3 {R:RM} {v:Value} {n:Nat} (h:Bsl R v n) :
  Fn P MG [v] R [] (λx R' A=>R' = R∧∃rb v',x = Pt rb∧A = [(rb,rdO v' 0)]∧Byt R v'):=by
 refine Qx λF=>?_
 unfold LX;obtain⟨a,cap,hv⟩:=h.sl;refine AJ (λvs R' D'=>R' = R∧D' = [] ++ F∧∃v',Byt R v'∧vs = [v']) (λK hK=>?_) ?_
 ·refine CN h.sl (jgr (jif (λh1=>?_) (λh1=>?_)))
  ·have h1:=z_f h1;refine jsb h (by omega) (by omega) λv' hv'=>?_
   refine hK _ _ _ ⟨rfl,rfl,v',?_,rfl⟩;obtain⟨a',c',e⟩:=hv'.sl;exact⟨a',_,c',e,hv',by decide⟩
  ·have h1:=z_g h1;exact hK _ _ _ ⟨rfl,rfl,v,⟨a,n,cap,hv,h,by omega⟩,rfl⟩
 rintro e R1 D1 ⟨hR,hD,v',hv',he⟩;subst hR;rw[hD];clear hD;simp only[List.map,zc,zl,zj,z_t] at he;simp only[he];obtain⟨a',n',c',hv2,-⟩:=id hv';subst hv2;refine jbd (cs:=[.slice a' n' c',I 0]) rfl rfl ?_;refine ja λb=>?_
 exact BA (A:=[(b,rdO (.slice a' n' c') 0)]) (RM.le.refl _) ⟨rfl,b,_,rfl,rfl,hv'⟩
section draws
variable {R:RM} {rb:Nat} {v:Value} {m:Int}
set_option maxHeartbeats 4000000 in
theorem LU (hb:Byt R v) (hm:0≤m∧m < 500000000):Dr Hx [Pt rb] R rb v m 3 (λx R'=>R' = R∧∃sh:Shp,x = eSh sh):=by
 refine Ny λF=>?_
 unfold Ie;refine ja λb=>?_
 refine jpk hb ⟨by omega,by omega⟩ λx1 _ _=>jeq (jif (λ_=>?_) (λ_=>?_))
 ·refine AJ (λvs R' D'=>R' = R∧(∃r n m',m≤m'∧m'≤m + 3∧D' = (b,C 60 [I r,I n]) :: (rb,rdO v m') :: F)∧vs = [Pt b]) (λK hK=>?_) ?_;rotate_left
  ·rintro e R1 D1 ⟨hR,⟨r,n,m',h1,h2,hD⟩,he⟩;subst hR;rw[hD];clear hD;simp only[List.map,zc,zl,zj,z_t] at he;simp only[he];refine jla (l:=[I r,I n]) (by exact z_n 2) rfl ?_;exact EO m' (RM.le.refl _) ⟨rfl,⟨r,n⟩,rfl⟩ h1 h2
  have fin:∀(r n m' : Int),m≤m'→m'≤m + 3→J R ((b,C 60 [I r,I n]) :: (rb,rdO v m') :: F) (K [Pt b]):=λr n m' h1 h2=>hK _ _ _ ⟨rfl,⟨r,n,m',h1,h2,rfl⟩,rfl⟩
  clear hK;refine E6 ?_ ?_
  ·refine jbs (cs:=[I 4,I 5,I (-1),I 0]) rfl rfl λb6=>?_
   refine E6 ?_ ?_
   ·refine jpk hb ⟨by omega,by omega⟩ λx7 _ _=>?_
    refine jia (by omega) (by omega) ?_;refine jl (B9 [4,5,-1,0] (by omega) (by show _ < (4:Int);omega)) ?_;refine E6 ?_ ?_
    ·refine jbs (cs:=[I 4,I 5,I (-1),I 0]) rfl rfl λb10=>?_
     refine Ae (jl (B9 [4,5,-1,0] (by omega) (by show _ < (4:Int);omega)) jev) ?_;refine jpk hb ⟨by omega,by omega⟩ λx12 _ _=>?_
     refine jia (by omega) (by omega) ?_;refine jl (B9 [4,5,-1,0] (by omega) (by show _ < (4:Int);omega)) ?_;refine jbd (cs:=[I _,I _]) rfl rfl ?_;refine Ae (jl (B9 [4,5,-1,0] (by omega) (by show _ < (4:Int);omega)) jev) ?_;refine js (cs':=[I _,I _]) rfl rfl (by exact z_n 2) rfl ?_;refine jk2 (F:=F) b rb ?_;exact fin _ _ _ (by omega) (by omega)
    refine DT ?_;refine jpk hb ⟨by omega,by omega⟩ λx17 _ _=>?_
    refine Ae (jl (B9 [4,5,-1,0] (by omega) (by show _ < (4:Int);omega)) jev) ?_;refine jbs (cs:=[I 4,I 5,I (-1),I 0]) rfl rfl λb19=>?_
    refine jia (by omega) (by omega) ?_;refine jl (B9 [4,5,-1,0] (by omega) (by show _ < (4:Int);omega)) ?_;refine jbd (cs:=[I _,I _]) rfl rfl ?_;refine Ae (jl (B9 [4,5,-1,0] (by omega) (by show _ < (4:Int);omega)) jev) ?_;refine js (cs':=[I _,I _]) rfl rfl (by exact z_n 2) rfl ?_;refine jk2 (F:=F) b rb ?_;exact fin _ _ _ (by omega) (by omega)
   refine DT ?_;refine jbs (cs:=[I 4,I 5,I (-1),I 0]) rfl rfl λb24=>?_
   refine jpk hb ⟨by omega,by omega⟩ λx25 _ _=>?_
   refine jia (by omega) (by omega) ?_;refine jl (B9 [4,5,-1,0] (by omega) (by show _ < (4:Int);omega)) ?_;refine jpk hb ⟨by omega,by omega⟩ λx28 _ _=>?_
   refine jia (by omega) (by omega) ?_;refine jl (B9 [4,5,-1,0] (by omega) (by show _ < (4:Int);omega)) ?_;refine jbd (cs:=[I _,I _]) rfl rfl ?_;refine Ae (jl (B9 [4,5,-1,0] (by omega) (by show _ < (4:Int);omega)) jev) ?_;refine js (cs':=[I _,I _]) rfl rfl (by exact z_n 2) rfl ?_;refine jk2 (F:=F) b rb ?_;exact fin _ _ _ (by omega) (by omega)
  refine E6 ?_ ?_
  ·refine jpk hb ⟨by omega,by omega⟩ λx33 _ _=>?_
   refine E6 ?_ ?_
   ·refine jbs (cs:=[I 4,I 5,I (-1),I 0]) rfl rfl λb34=>?_
    refine jia (by omega) (by omega) ?_;refine jl (B9 [4,5,-1,0] (by omega) (by show _ < (4:Int);omega)) ?_;refine E6 ?_ ?_
    ·refine jbs (cs:=[I 4,I 5,I (-1),I 0]) rfl rfl λb37=>?_
     refine Ae (jl (B9 [4,5,-1,0] (by omega) (by show _ < (4:Int);omega)) jev) ?_;refine jpk hb ⟨by omega,by omega⟩ λx39 _ _=>?_
     refine jia (by omega) (by omega) ?_;refine jl (B9 [4,5,-1,0] (by omega) (by show _ < (4:Int);omega)) ?_;refine jbd (cs:=[I _,I _]) rfl rfl ?_;refine Ae (jl (B9 [4,5,-1,0] (by omega) (by show _ < (4:Int);omega)) jev) ?_;refine js (cs':=[I _,I _]) rfl rfl (by exact z_n 2) rfl ?_;refine jk2 (F:=F) b rb ?_;exact fin _ _ _ (by omega) (by omega)
    refine DT ?_;refine jpk hb ⟨by omega,by omega⟩ λx44 _ _=>?_
    refine Ae (jl (B9 [4,5,-1,0] (by omega) (by show _ < (4:Int);omega)) jev) ?_;refine jbs (cs:=[I 4,I 5,I (-1),I 0]) rfl rfl λb46=>?_
    refine jia (by omega) (by omega) ?_;refine jl (B9 [4,5,-1,0] (by omega) (by show _ < (4:Int);omega)) ?_;refine jbd (cs:=[I _,I _]) rfl rfl ?_;refine Ae (jl (B9 [4,5,-1,0] (by omega) (by show _ < (4:Int);omega)) jev) ?_;refine js (cs':=[I _,I _]) rfl rfl (by exact z_n 2) rfl ?_;refine jk2 (F:=F) b rb ?_;exact fin _ _ _ (by omega) (by omega)
   refine E6 ?_ ?_
   ·refine jbs (cs:=[I 4,I 5,I (-1),I 0]) rfl rfl λb51=>?_
    refine E6 ?_ ?_
    ·refine jbs (cs:=[I 4,I 5,I (-1),I 0]) rfl rfl λb52=>?_
     refine jia (by omega) (by omega) ?_;refine jl (B9 [4,5,-1,0] (by omega) (by show _ < (4:Int);omega)) ?_;refine jpk hb ⟨by omega,by omega⟩ λx55 _ _=>?_
     refine jia (by omega) (by omega) ?_;refine jl (B9 [4,5,-1,0] (by omega) (by show _ < (4:Int);omega)) ?_;refine jbd (cs:=[I _,I _]) rfl rfl ?_;refine Ae (jl (B9 [4,5,-1,0] (by omega) (by show _ < (4:Int);omega)) jev) ?_;refine js (cs':=[I _,I _]) rfl rfl (by exact z_n 2) rfl ?_;refine jk2 (F:=F) b rb ?_;exact fin _ _ _ (by omega) (by omega)
    refine DT ?_;refine jpk hb ⟨by omega,by omega⟩ λx60 _ _=>?_
    refine jia (by omega) (by omega) ?_;refine jl (B9 [4,5,-1,0] (by omega) (by show _ < (4:Int);omega)) ?_;refine jbs (cs:=[I 4,I 5,I (-1),I 0]) rfl rfl λb63=>?_
    refine jia (by omega) (by omega) ?_;refine jl (B9 [4,5,-1,0] (by omega) (by show _ < (4:Int);omega)) ?_;refine jbd (cs:=[I _,I _]) rfl rfl ?_;refine Ae (jl (B9 [4,5,-1,0] (by omega) (by show _ < (4:Int);omega)) jev) ?_;refine js (cs':=[I _,I _]) rfl rfl (by exact z_n 2) rfl ?_;refine jk2 (F:=F) b rb ?_;exact fin _ _ _ (by omega) (by omega)
   refine DT ?_;refine jpk hb ⟨by omega,by omega⟩ λx68 _ _=>?_
   refine E6 ?_ ?_
   ·refine jbs (cs:=[I 4,I 5,I (-1),I 0]) rfl rfl λb69=>?_
    refine jia (by omega) (by omega) ?_;refine jl (B9 [4,5,-1,0] (by omega) (by show _ < (4:Int);omega)) ?_;refine jbs (cs:=[I 4,I 5,I (-1),I 0]) rfl rfl λb72=>?_
    refine jia (by omega) (by omega) ?_;refine jl (B9 [4,5,-1,0] (by omega) (by show _ < (4:Int);omega)) ?_;refine jbd (cs:=[I _,I _]) rfl rfl ?_;refine Ae (jl (B9 [4,5,-1,0] (by omega) (by show _ < (4:Int);omega)) jev) ?_;refine js (cs':=[I _,I _]) rfl rfl (by exact z_n 2) rfl ?_;refine jk2 (F:=F) b rb ?_;exact fin _ _ _ (by omega) (by omega)
   refine DT ?_;refine jbs (cs:=[I 4,I 5,I (-1),I 0]) rfl rfl λb77=>?_
   refine jia (by omega) (by omega) ?_;refine jl (B9 [4,5,-1,0] (by omega) (by show _ < (4:Int);omega)) ?_;refine jbs (cs:=[I 4,I 5,I (-1),I 0]) rfl rfl λb80=>?_
   refine jia (by omega) (by omega) ?_;refine jl (B9 [4,5,-1,0] (by omega) (by show _ < (4:Int);omega)) ?_;refine jbd (cs:=[I _,I _]) rfl rfl ?_;refine Ae (jl (B9 [4,5,-1,0] (by omega) (by show _ < (4:Int);omega)) jev) ?_;refine js (cs':=[I _,I _]) rfl rfl (by exact z_n 2) rfl ?_;refine jk2 (F:=F) b rb ?_;exact fin _ _ _ (by omega) (by omega)
  refine DT ?_;refine jbs (cs:=[I 4,I 5,I (-1),I 0]) rfl rfl λb85=>?_
  refine E6 ?_ ?_
  ·refine jbs (cs:=[I 4,I 5,I (-1),I 0]) rfl rfl λb86=>?_
   refine jpk hb ⟨by omega,by omega⟩ λx87 _ _=>?_
   refine jia (by omega) (by omega) ?_;refine jl (B9 [4,5,-1,0] (by omega) (by show _ < (4:Int);omega)) ?_;refine jpk hb ⟨by omega,by omega⟩ λx90 _ _=>?_
   refine jia (by omega) (by omega) ?_;refine jl (B9 [4,5,-1,0] (by omega) (by show _ < (4:Int);omega)) ?_;refine jbd (cs:=[I _,I _]) rfl rfl ?_;refine Ae (jl (B9 [4,5,-1,0] (by omega) (by show _ < (4:Int);omega)) jev) ?_;refine js (cs':=[I _,I _]) rfl rfl (by exact z_n 2) rfl ?_;refine jk2 (F:=F) b rb ?_;exact fin _ _ _ (by omega) (by omega)
  refine DT ?_;refine jpk hb ⟨by omega,by omega⟩ λx95 _ _=>?_
  refine E6 ?_ ?_
  ·refine jbs (cs:=[I 4,I 5,I (-1),I 0]) rfl rfl λb96=>?_
   refine jia (by omega) (by omega) ?_;refine jl (B9 [4,5,-1,0] (by omega) (by show _ < (4:Int);omega)) ?_;refine jpk hb ⟨by omega,by omega⟩ λx99 _ _=>?_
   refine jia (by omega) (by omega) ?_;refine jl (B9 [4,5,-1,0] (by omega) (by show _ < (4:Int);omega)) ?_;refine jbd (cs:=[I _,I _]) rfl rfl ?_;refine Ae (jl (B9 [4,5,-1,0] (by omega) (by show _ < (4:Int);omega)) jev) ?_;refine js (cs':=[I _,I _]) rfl rfl (by exact z_n 2) rfl ?_;refine jk2 (F:=F) b rb ?_;exact fin _ _ _ (by omega) (by omega)
  refine DT ?_;refine jpk hb ⟨by omega,by omega⟩ λx104 _ _=>?_
  refine jia (by omega) (by omega) ?_;refine jl (B9 [4,5,-1,0] (by omega) (by show _ < (4:Int);omega)) ?_;refine jbs (cs:=[I 4,I 5,I (-1),I 0]) rfl rfl λb107=>?_
  refine jia (by omega) (by omega) ?_;refine jl (B9 [4,5,-1,0] (by omega) (by show _ < (4:Int);omega)) ?_;refine jbd (cs:=[I _,I _]) rfl rfl ?_;refine Ae (jl (B9 [4,5,-1,0] (by omega) (by show _ < (4:Int);omega)) jev) ?_;refine js (cs':=[I _,I _]) rfl rfl (by exact z_n 2) rfl ?_;refine jk2 (F:=F) b rb ?_;exact fin _ _ _ (by omega) (by omega)
 ·refine jpk hb ⟨by omega,by omega⟩ λx2 _ _=>jpk hb ⟨by omega,by omega⟩ λx3 _ _=>?_
  refine jbd (cs:=[I x2,I x3]) rfl rfl (js (cs':=[I x2,I x3]) rfl rfl (by simp) rfl ?_);refine jla (l:=[I x2,I x3]) (by exact z_n 2) rfl ?_;exact EO _ (RM.le.refl _) ⟨rfl,⟨x2,x3⟩,rfl⟩ (by omega) (by omega)
theorem PM (hb:Byt R v) (hm:0≤m∧m < 500000000):Dr H3 [Pt rb] R rb v m 3 (λx R'=>R' = R∧∃c:Cfg,x = .agg #[I c.AC,I c.AA,I c.AN]∧BY c = true):=by
 refine Mu λF=>?_
 unfold Ga;refine ja λb=>?_
 refine jpk hb ⟨by omega,by omega⟩ λx1 _ _=>jad (jpk hb ⟨by omega,by omega⟩ λx2 _ _=>jad ?_)
 refine jbs (cs:=[I 16,I 32,I 0,I 8,I 100]) rfl rfl λb6=>?_
 refine jpk hb ⟨by omega,by omega⟩ λx3 _ _=>jia (by omega) (by omega) ?_
 have h3:=Ul (l:=[16,32,0,8,100]) (x:=x3) (by omega) (by show _ < (5:Int);omega);refine jl (B9 [16,32,0,8,100] (by omega) (by show _ < (5:Int);omega)) ?_;generalize sel [16,32,0,8,100] x3 = y at h3;refine jbd (cs:=[I (4 + x1),I (1 + x2),I y]) rfl rfl (js (cs':=[I (4 + x1),I (1 + x2),I y]) rfl rfl (by simp) rfl ?_);refine jla (l:=[I (4 + x1),I (1 + x2),I y]) (by exact z_n 3) rfl ?_;refine EO _ (RM.le.refl _) ⟨rfl,⟨4 + x1,1 + x2,y⟩,rfl,?_⟩ (by omega) (by omega);simp only[Yw,List.not_mem_nil,or_false] at h3;simp only[BY,z_b,z_d];omega
end draws
def OpB (b b1 rb:Nat) (v:Value) (m c:Int) (F D:Chs):Prop:=∃k a b2 c2 f w r n m',(m≤m'∧-9223372036854775808≤w∧w < 9223372036854775808)∧m'≤m + c∧D = (b,C 183 [I k,I a,I b2,I c2,I f,I w,I r,I n]) :: (b1,C 183 (cl z183)) :: (rb,rdO v m') :: F
section draws
variable {R:RM} {rb:Nat} {v:Value} {m:Int}
theorem VL {n:Int} (hn:0≤n∧n < 1000000) (hb:Byt R v) (hm:0≤m∧m < 400000000):Dr NV [Pt rb,I n] R rb v m 30 (λx R'=>R' = R∧∃o:Sm.Op,x = .agg (eOp o).toArray∧Rn o.v):=by
 refine TE λF=>?_
 unfold N9;refine ja λb1=>jad (jpk hb ⟨by omega,by omega⟩ λx1 _ _=>jad (jpk hb ⟨by omega,by omega⟩ λx2 _ _=>jad (jpk hb ⟨by omega,by omega⟩ λx3 _ _=>?_)))
 refine jpk hb ⟨by omega,by omega⟩ λx4 _ _=>jpk hb ⟨by omega,by omega⟩ λx5 _ _=>jsu ?_
 refine jbd (cs:=[I 0,I x1,I x2,I x3,I x4,I (x5 - 6),I 0,I 0]) rfl rfl (ja λb=>?_);refine js (cs':=[I 0,I x1,I x2,I x3,I x4,I (x5 - 6),I 0,I 0]) rfl rfl (by exact z_n 8) rfl ?_;refine AJ (λvs R' D'=>R' = R∧OpB b b1 rb v m 9 F D'∧vs = [Pt rb,Pt b1,Pt b]) (λK hK=>?_) ?_
 ·refine AJ (λvs R' D'=>R' = R∧OpB b b1 rb v m 6 F D'∧∃c u w,Fh c u w∧vs = [Pt rb,I n,Pt b1,Pt b,c,u]) (λK2 hK2=>?_) ?_
  ·refine jpk hb ⟨by omega,by omega⟩ λx6 _ _=>jgr (Bm (λh1=>jgr ?_) (λh1=>?_))<;>refine jk3 (F:=F) b b1 rb ?_
   ·exact hK2 _ _ _ ⟨rfl,⟨_,_,_,_,_,_,_,_,_,by omega,by omega,rfl⟩,_,_,_,h1▸Aq,rfl⟩
   ·exact hK2 _ _ _ ⟨rfl,⟨_,_,_,_,_,_,_,_,_,by omega,by omega,rfl⟩,_,_,_,h1▸Av,rfl⟩
  rintro e R1 D1 ⟨hR,⟨k,a,b2,c2,f,w,r,n',m',h1,h2,hD⟩,c,u,w',ho,he⟩;subst hR;rw[hD];clear hD;simp only[List.map,zc,zl,zj,z_t] at he;simp only[he];rw[ho];refine jif (λ_=>?_) (λ_=>?_)
  ·refine jpk hb ⟨by omega,by omega⟩ λy1 _ _=>js rfl rfl (Yp rfl) rfl ?_
   refine jpk hb ⟨by omega,by omega⟩ λy2 _ _=>js rfl rfl (Yp rfl) rfl ?_
   refine jpk hb ⟨by omega,by omega⟩ λy3 _ _=>js rfl rfl (Yp rfl) rfl ?_
   refine jk3 (F:=F) b b1 rb ?_;exact hK _ _ _ ⟨rfl,⟨_,_,_,_,_,_,_,_,_,by omega,by omega,rfl⟩,rfl⟩
  ·exact hK _ _ _ ⟨rfl,⟨_,_,_,_,_,_,_,_,_,by omega,by omega,rfl⟩,rfl⟩
 rintro e R1 D1 ⟨hR,⟨k,a,b2,c2,f,w,r,n',m',h1,h2,hD⟩,he⟩;subst hR;rw[hD];clear hD;simp only[List.map,zc,zl,zj,z_t] at he;simp only[he];refine jpk hb ⟨by omega,by omega⟩ λz _ _=>?_
 refine AJ (λvs R' D'=>R' = R1∧OpB b b1 rb v m 15 F D'∧vs = [Pt rb,Pt b1,Pt b]) (λK hK=>?_) ?_
 ·refine AJ (λvs R' D'=>R' = R1∧OpB b b1 rb v m 15 F D'∧vs = [Pt rb,Pt b1,Pt b]) (λK2 hK2=>?_) ?_;rotate_left
  ·rintro e R2 D2 ⟨hR,hD,he⟩;simp only[List.map,zc,zl,zj,z_t] at he;simp only[he];exact hK _ _ _ ⟨hR,hD,rfl⟩
  refine jlt (jif (λ_=>?_) (λ_=>jlt (jif (λ_=>?_) (λ_=>jlt (jif (λ_=>?_) (λ_=>jeq (jif (λ_=>?_) (λ_=>jeq (jif (λ_=>?_) (λ_=>jeq (jif (λ_=>?_) (λ_=>jeq (jif (λ_=>?_) (λ_=>jlt (jif (λ_=>?_) (λ_=>?_))))))))))))))))
  ·refine js rfl rfl (Yp rfl) rfl ?_;refine jdr (LU hb ⟨by omega,by omega⟩) ?_;rintro _ R2 m2 - ⟨hR2,sh,rfl⟩ h3 h4;subst hR2;refine js rfl rfl (Yp rfl) rfl ?_;refine jk3 (F:=F) b b1 rb ?_;exact hK2 _ _ _ ⟨rfl,⟨_,_,_,_,_,_,_,_,_,by omega,by omega,rfl⟩,rfl⟩
  ·refine js rfl rfl (Yp rfl) rfl (jk3 (F:=F) b b1 rb ?_);exact hK2 _ _ _ ⟨rfl,⟨_,_,_,_,_,_,_,_,_,by omega,by omega,rfl⟩,rfl⟩
  ·refine js rfl rfl (Yp rfl) rfl (jk3 (F:=F) b b1 rb ?_);exact hK2 _ _ _ ⟨rfl,⟨_,_,_,_,_,_,_,_,_,by omega,by omega,rfl⟩,rfl⟩
  ·refine js rfl rfl (Yp rfl) rfl (jpk hb ⟨by omega,by omega⟩ λy _ _=>js rfl rfl (Yp rfl) rfl (jk3 (F:=F) b b1 rb ?_));exact hK2 _ _ _ ⟨rfl,⟨_,_,_,_,_,_,_,_,_,by omega,by omega,rfl⟩,rfl⟩
  ·refine js rfl rfl (Yp rfl) rfl (jpk hb ⟨by omega,by omega⟩ λy _ _=>js rfl rfl (Yp rfl) rfl (jk3 (F:=F) b b1 rb ?_));exact hK2 _ _ _ ⟨rfl,⟨_,_,_,_,_,_,_,_,_,by omega,by omega,rfl⟩,rfl⟩
  ·refine js rfl rfl (Yp rfl) rfl (jk3 (F:=F) b b1 rb ?_);exact hK2 _ _ _ ⟨rfl,⟨_,_,_,_,_,_,_,_,_,by omega,by omega,rfl⟩,rfl⟩
  ·refine js rfl rfl (Yp rfl) rfl (jk3 (F:=F) b b1 rb ?_);exact hK2 _ _ _ ⟨rfl,⟨_,_,_,_,_,_,_,_,_,by omega,by omega,rfl⟩,rfl⟩
  ·refine js rfl rfl (Yp rfl) rfl (jk3 (F:=F) b b1 rb ?_);exact hK2 _ _ _ ⟨rfl,⟨_,_,_,_,_,_,_,_,_,by omega,by omega,rfl⟩,rfl⟩
  ·refine jbs (cs:=[I 9,I 10,I 11]) rfl rfl λbt=>jpk hb ⟨by omega,by omega⟩ λy _ _=>jia (by omega) (by omega) (jl (B9 [9,10,11] (by omega) (by show _ < (3:Int);omega)) ?_)
   refine js rfl rfl (Yp rfl) rfl (jk3 (F:=F) b b1 rb ?_);exact hK2 _ _ _ ⟨rfl,⟨_,_,_,_,_,_,_,_,_,by omega,by omega,rfl⟩,rfl⟩
 clear h1 h2 m';rintro e R2 D2 ⟨hR,⟨k,a,b2,c2,f,w,r,n',m',h1,h2,hD⟩,he⟩;subst hR;rw[hD];clear hD;simp only[List.map,zc,zl,zj,z_t] at he;simp only[he];refine AJ (λvs R' D'=>R' = R2∧OpB b b1 rb v m 16 F D'∧vs = [Pt rb,Pt b1,Pt b]) (λK hK=>?_) ?_
 ·refine jpk hb ⟨by omega,by omega⟩ λy _ _=>jeq (jif (λ_=>js rfl rfl (Yp rfl) rfl ?_) (λ_=>?_))<;>refine jk3 (F:=F) b b1 rb ?_
  ·exact hK _ _ _ ⟨rfl,⟨_,_,_,_,_,_,_,_,_,by omega,by omega,rfl⟩,rfl⟩
  ·exact hK _ _ _ ⟨rfl,⟨_,_,_,_,_,_,_,_,_,by omega,by omega,rfl⟩,rfl⟩
 clear h1 h2 m';rintro e R3 D3 ⟨hR,⟨k,a,b2,c2,f,w,r,n',m',h1,h2,hD⟩,he⟩;subst hR;rw[hD];clear hD;simp only[List.map,zc,zl,zj,z_t] at he;simp only[he];refine AJ (λvs R' D'=>R' = R3∧OpB b b1 rb v m 20 F D'∧vs = [Pt b1,Pt b]) (λK hK=>?_) ?_
 ·refine jpk hb ⟨by omega,by omega⟩ λy _ _=>?_
  refine AJ (λvs R' D'=>R' = R3∧OpB b b1 rb v m 20 F D'∧vs = [Pt b1,Pt b]) (λK2 hK2=>?_) ?_;rotate_left
  ·rintro e R4 D4 ⟨hR,hD,he⟩;simp only[List.map,zc,zl,zj,z_t] at he;simp only[he];exact hK _ _ _ ⟨hR,hD,rfl⟩
  refine jeq (jif (λ_=>?_) (λ_=>jeq (jif (λ_=>?_) (λ_=>jeq (jif (λ_=>?_) (λ_=>?_))))))
  ·refine jbs (cs:=[I 0,I 12,I (-1)]) rfl rfl λbt=>jpk hb ⟨by omega,by omega⟩ λy _ _=>jia (by omega) (by omega) (jl (B9 [0,12,-1] (by omega) (by show _ < (3:Int);omega)) ?_)
   refine js rfl rfl (Yp rfl) rfl (jk3 (F:=F) b b1 rb ?_);exact hK2 _ _ _ ⟨rfl,⟨_,_,_,_,_,_,_,_,_,by omega,by omega,rfl⟩,rfl⟩
  ·refine jbs (cs:=[I (-1),I 8,I 1099511627776]) rfl rfl λbt=>jpk hb ⟨by omega,by omega⟩ λy _ _=>jia (by omega) (by omega) (jl (B9 [-1,8,1099511627776] (by omega) (by show _ < (3:Int);omega)) ?_)
   refine js rfl rfl (Yp rfl) rfl (jk3 (F:=F) b b1 rb ?_);exact hK2 _ _ _ ⟨rfl,⟨_,_,_,_,_,_,_,_,_,by omega,by omega,rfl⟩,rfl⟩
  ·refine jbs (cs:=[I (-1),I 4,I 1099511627776]) rfl rfl λbt=>jpk hb ⟨by omega,by omega⟩ λy _ _=>jia (by omega) (by omega) (jl (B9 [-1,4,1099511627776] (by omega) (by show _ < (3:Int);omega)) ?_)
   refine js rfl rfl (Yp rfl) rfl (jk3 (F:=F) b b1 rb ?_);exact hK2 _ _ _ ⟨rfl,⟨_,_,_,_,_,_,_,_,_,by omega,by omega,rfl⟩,rfl⟩
  ·refine jk3 (F:=F) b b1 rb ?_;exact hK2 _ _ _ ⟨rfl,⟨_,_,_,_,_,_,_,_,_,by omega,by omega,rfl⟩,rfl⟩
 clear h1 h2 m';rintro e R4 D4 ⟨hR,⟨k,a,b2,c2,f,w,r,n',m',h1,h2,hD⟩,he⟩;subst hR;rw[hD];clear hD;simp only[List.map,zc,zl,zj,z_t] at he;simp only[he];refine jla (l:=[I k,I a,I b2,I c2,I f,I w,I r,I n']) (by exact z_n 8) rfl ?_;refine js rfl rfl (Yp rfl) rfl ?_;refine jla (l:=[I k,I a,I b2,I c2,I f,I w,I r,I n']) (by exact z_n 8) rfl ?_;exact EO m' (RM.le.refl _) ⟨rfl,⟨k,a,b2,c2,f,w,⟨r,n'⟩⟩,rfl,h1.2⟩ (by omega) (by omega)
end draws
theorem Sv {R:RM} {D D1 A E:Chs} {t w by_ b m cx:Nat} {rows:List (List Value)} {cs:List Value} {v:Value} {zs:List Value} {k:Value→M} (rows2:List (List Value)) (so:SW t w rows v A) [tk:Tk D b (C t cs) D1] [sp:Sp D1 A E] (hcs:cs = rows2.flatten)
  (hw:∀r∈rows,r.length = w) (hw2:∀r∈rows2,r.length = w) (hz:zs.length = w) (hf:CG rows2.flatten = true) (hm:m = rows2.length) (hb:by_≠0) (hl:by_ * (2 * (rows.length + rows2.length) + 200)≤2 ^ 48)
  (H:∀v' A',SW t w (rows ++ rows2) v' A'→J R (A' ++ E) (k v')):J R D (AP t w by_ zs v (S0 b m cx) k):=by
 subst hcs;intro h hs;have h1:=(hs.perm tk.p).perm ((sp.p.cons _).trans ZG.symm);refine jaw (E:=(b,C t rows2.flatten) :: E) so hw hw2 hz hf hm hb hl ?_ (λv' A' so'=>BH ZG (C4 (H v' A' so'))) h h1;have:=BQ.held (R:=R) (D:=A ++ (b,C t rows2.flatten) :: E) (b:=b) (o:=0) (n:=m * w) (t:=t) (cs:=rows2.flatten) (a:=inferInstance) (by rw[CE hw2,hm];omega);rw[aD,Yz (by rw[CE hw2,hm];omega)] at this;exact this
theorem Nf {l:List Sm.Op}:∀r∈l.map eOp,r.length = 8:=by
 intro r hr;obtain⟨x,_,rfl⟩:=ZU.1 hr;rfl
theorem Wi {R:RM} {A E:Chs} {l:List Sm.Op} {v:Value} {m:M} (so:SW 183 8 (l.map eOp) v A) (H:∀R',R.le R'→Ops R' v l→J R' E m):J R (A ++ E) m:=by
 refine jfw so Nf λR' hR hfz=>H R' hR ?_
 rw[ZF] at hfz;exact hfz
def Vs (l:List Sm.Op):Prop:=∀o∈l,Rn o.v
theorem Vs.app {l l' : List Sm.Op} (h:Vs l) (h' : Vs l'):Vs (l ++ l'):=λo ho=>(ZD.1 ho).elim (h o) (h' o)
theorem Vs.nil:Vs []:=λo ho=>by cases ho
theorem Vs.one {o:Sm.Op} (h:Rn o.v):Vs [o]:=λx hx=>by rw[Z3.1 hx];exact h
def OpP (b rb:Nat) (v:Value) (m c:Int) (F D:Chs):Prop:=∃k a b2 c2 f w r n m',(m≤m'∧-9223372036854775808≤w∧w < 9223372036854775808)∧m'≤m + c∧D = (b,C 183 [I k,I a,I b2,I c2,I f,I w,I r,I n]) :: (rb,rdO v m') :: F
section draws
variable {R:RM} {rb:Nat} {v:Value} {m:Int}
theorem TD {n:Nat} (hn:n≤1000) (hb:Byt R v) (hm:0≤m∧m < 300000000):Dr Jm [Pt rb,I n] R rb v m (50 * n) (λx R'=>∃l:List Sm.Op,(l.length = n∧Vs l)∧Ops R' x l):=by
 refine Oy λF=>?_
 unfold KE;refine AJ (λvs R' D'=>R' = R∧∃(l:List Sm.Op) (ov:Value) (A:Chs) (m' : Int),(l.length = n∧Vs l)∧SW 183 8 (l.map eOp) ov A∧m≤m'∧m'≤m + 50 * n∧D' = A ++ (rb,rdO v m') :: F∧vs = [ov]) (λK hK=>?_) ?_;rotate_left
 ·rintro e R1 D1 ⟨hR,l,ov,A,m',hl,so,h1,h2,hD,he⟩;subst hR;rw[hD];clear hD;simp only[List.map,zc,zl,zj,z_t] at he;simp only[he];exact Wi so λR2 hR2 ho=>EO m' hR2 ⟨l,hl,ho⟩ h1 h2
 refine AJ (λvs R' D'=>R' = R∧∃(l:List Sm.Op) (ov:Value) (A:Chs) (m' : Int),(l.length = n∧Vs l)∧SW 183 8 (l.map eOp) ov A∧m≤m'∧m'≤m + 50 * n∧D' = A ++ (rb,rdO v m') :: F∧vs = [ov]) (λK2 hK2=>?_) ?_;rotate_left
 ·rintro e R1 D1 ⟨hR,l,ov,A,m',hl,so,h1,h2,hD,he⟩;simp only[List.map,zc,zl,zj,z_t] at he;simp only[he];exact hK _ _ _ ⟨hR,l,ov,A,m',hl,so,h1,h2,hD,rfl⟩
 refine jlp (λmm vs R' D'=>R' = R∧∃(i:Nat) (r:Int) (l:List Sm.Op) (ov:Value) (A:Chs) (m' : Int),i≤n∧(l.length = i∧Vs l)∧0≤r∧r≤i + 1∧SW 183 8 (l.map eOp) ov A∧m≤m'∧m'≤m + 50 * i∧D' = A ++ (rb,rdO v m') :: F∧vs = [Pt rb,I n,ov,I r,I i]∧mm = n - i)
  (n:=n) ⟨rfl,0,1,[],.slice none 0 0,[],m,by omega,⟨rfl,Vs.nil⟩,by omega,by omega,.inl ⟨rfl,rfl,rfl⟩,by omega,by omega,rfl,rfl,by omega⟩ ?_
 rintro mm e R1 D1 K3 ⟨hR,i,r,l,ov,A,m',hi,⟨hl,hvs⟩,r0,r1,so,h1,h2,hD,he,hmm⟩ hK3;subst hR;rw[hD];clear hD;simp only[List.map,zc,zl,zj,z_t] at he;simp only[he];refine jlt (jif (λhc=>?_) (λhc=>?_));rotate_left
 ·have hc:=z_g hc;have:i = n:=by omega
  subst this;exact hK2 _ _ _ ⟨rfl,l,ov,A,m',⟨hl,hvs⟩,so,h1,h2,rfl,rfl⟩
 have hc:i < n:=by have:=z_f hc;omega
 refine jdr (VL (n:=r) ⟨r0,by omega⟩ hb ⟨by omega,by omega⟩) ?_;rintro _ R2 m2 - ⟨hR2,o,rfl,hov⟩ h3 h4;subst hR2;unfold Rn at hov;refine ja λb=>js (cs':=eOp o) rfl rfl (by exact z_n 8) rfl ?_
 refine AJ (λvs R' D'=>R' = R2∧OpP b rb v m2 4 (A ++ F) D'∧vs = [Pt rb,I n,ov,I r,I i,Pt b]) (λK4 hK4=>?_) ?_
 ·refine AJ (λvs R' D'=>R' = R2∧OpP b rb v m2 0 (A ++ F) D'∧∃c u w,Fh c u w∧vs = [Pt rb,I n,ov,I r,I i,Pt b,c,u]) (λK5 hK5=>?_) ?_
  ·refine jle (Bm (λh=>jl (v:=I o.kind) rfl (jeq ?_)) (λh=>?_))
   ·exact hK5 _ _ _ ⟨rfl,⟨_,_,_,_,_,_,_,_,_,by omega,by omega,rfl⟩,_,_,_,h▸Aq,rfl⟩
   ·exact hK5 _ _ _ ⟨rfl,⟨_,_,_,_,_,_,_,_,_,by omega,by omega,rfl⟩,_,_,_,h▸Av,rfl⟩
  rintro e Rx Dx ⟨hR,⟨k,a,b2,c2,f,w,r',n',m3,h5,h6,hD⟩,c,u,w',ho,he⟩;subst hR;rw[hD];clear hD;simp only[List.map,zc,zl,zj,z_t] at he;simp only[he];refine AJ (λvs R' D'=>R' = Rx∧OpP b rb v m2 1 (A ++ F) D'∧∃c u w,Fh c u w∧vs = [Pt rb,I n,ov,I r,I i,Pt b,c,u]) (λK5 hK5=>?_) ?_
  ·rw[ho];refine Bm (λh=>jpk hb ⟨by omega,by omega⟩ λy _ _=>jgr ?_) (λh=>?_)<;>refine jk2 (F:=A ++ F) b rb ?_
   ·exact hK5 _ _ _ ⟨rfl,⟨_,_,_,_,_,_,_,_,_,by omega,by omega,rfl⟩,_,_,_,h▸Aq,rfl⟩
   ·exact hK5 _ _ _ ⟨rfl,⟨_,_,_,_,_,_,_,_,_,by omega,by omega,rfl⟩,_,_,_,h▸Av,rfl⟩
  clear h5 h6 m3 ho;rintro e Ry Dy ⟨hR,⟨k,a,b2,c2,f,w,r',n',m3,h5,h6,hD⟩,c,u,w',ho,he⟩;subst hR;rw[hD];clear hD;simp only[List.map,zc,zl,zj,z_t] at he;simp only[he];rw[ho];refine jif (λh=>?_) (λh=>?_)
  ·refine jdr (LU hb ⟨by omega,by omega⟩) ?_;rintro _ R3 m4 - ⟨hR3,sh,rfl⟩ h7 h8;subst hR3;refine jbd (cs:=[I 1,I 0,I 0,I 0,I 0,I 0,I sh.refs,I sh.nums]) rfl rfl ?_;refine js (cs':=[I 1,I 0,I 0,I 0,I 0,I 0,I sh.refs,I sh.nums]) rfl rfl (by exact z_n 8) rfl ?_;refine jk2 (F:=A ++ F) b rb ?_;exact hK4 _ _ _ ⟨rfl,⟨_,_,_,_,_,_,_,_,_,by omega,by omega,rfl⟩,rfl⟩
  ·exact hK4 _ _ _ ⟨rfl,⟨_,_,_,_,_,_,_,_,_,by omega,by omega,rfl⟩,rfl⟩
 rintro e Rx Dx ⟨hR,⟨k,a,b2,c2,f,w,r',n',m3,h5,h6,hD⟩,he⟩;subst hR;rw[hD];clear hD;simp only[List.map,zc,zl,zj,z_t] at he;simp only[he];refine AJ (λvs R' D'=>R' = Rx∧OpP b rb v m2 4 (A ++ F) D'∧vs = [Pt rb,I n,ov,I r,I i,Pt b]) (λK4 hK4=>?_) ?_
 ·refine AJ (λvs R' D'=>R' = Rx∧OpP b rb v m2 4 (A ++ F) D'∧∃c u w,Fh c u w∧vs = [Pt rb,I n,ov,I r,I i,Pt b,c,u]) (λK5 hK5=>?_) ?_
  ·refine jge (Bm (λh=>?_) (λh=>?_))
   ·have hu:∀w' : Bool,J Rx ((b,C 183 [I k,I a,I b2,I c2,I f,I w,I r',I n']) :: (rb,rdO v m3) :: (A ++ F)) (K5 [Pt rb,I n,ov,I r,I i,Pt b,.bool (decide (r≥7)),.bool w']):=λw'=>
     hK5 _ _ _ ⟨rfl,⟨_,_,_,_,_,_,_,_,_,by omega,by omega,rfl⟩,_,_,_,h▸Aq,rfl⟩
    refine jl (v:=I k) rfl (jeq (BM (λh2=>?_) (λh2=>?_)))<;>rw[h2]
    ·refine jl (v:=I k) rfl (jeq (EC (BM (λh3=>?_) (λh3=>?_))))<;>rw[h3]
     ·exact jl (v:=I k) rfl (jeq (EC (hu _)))
     ·exact ED (hu _)
    ·exact ED (jtf (ED (hu _)))
   ·exact hK5 _ _ _ ⟨rfl,⟨_,_,_,_,_,_,_,_,_,by omega,by omega,rfl⟩,_,_,_,h▸Av,rfl⟩
  clear h5 h6 m3;rintro e Ry Dy ⟨hR,⟨k,a,b2,c2,f,w,r',n',m3,h5,h6,hD⟩,c,u,w',ho,he⟩;subst hR;rw[hD];clear hD;simp only[List.map,zc,zl,zj,z_t] at he;simp only[he];rw[ho];refine jif (λh=>?_) (λh=>?_)
  ·refine jbd (cs:=[I 8,I 0,I 0,I 0,I 0,I 0,I 0,I 0]) rfl rfl ?_;refine js (cs':=[I 8,I 0,I 0,I 0,I 0,I 0,I 0,I 0]) rfl rfl (by exact z_n 8) rfl ?_;exact hK4 _ _ _ ⟨rfl,⟨_,_,_,_,_,_,_,_,_,by omega,by omega,rfl⟩,rfl⟩
  ·exact hK4 _ _ _ ⟨rfl,⟨_,_,_,_,_,_,_,_,_,by omega,by omega,rfl⟩,rfl⟩
 clear h5 h6 m3;rintro e Ry Dy ⟨hR,⟨k,a,b2,c2,f,w,r',n',m3,h5,h6,hD⟩,he⟩;subst hR;rw[hD];clear hD;simp only[List.map,zc,zl,zj,z_t] at he;simp only[he];refine AJ (λvs R' D'=>R' = Ry∧D' = (b,C 183 [I k,I a,I b2,I c2,I f,I w,I r',I n']) :: (rb,rdO v m3) :: (A ++ F)∧∃r2:Int,0≤r2∧r2≤r + 1∧vs = [Pt rb,I n,ov,I r2,I i,Pt b]) (λK6 hK6=>?_) ?_
 ·refine jl (v:=I k) rfl ?_;refine AJ (λvs R' D'=>R' = Ry∧D' = (b,C 183 [I k,I a,I b2,I c2,I f,I w,I r',I n']) :: (rb,rdO v m3) :: (A ++ F)∧∃r2:Int,0≤r2∧r2≤r + 1∧vs = [Pt rb,I n,ov,I r2,I i,Pt b]) (λK7 hK7=>?_) ?_;rotate_left
  ·rintro e Rz Dz ⟨hR,hD,r2,q0,q1,he⟩;simp only[List.map,zc,zl,zj,z_t] at he;simp only[he];exact hK6 _ _ _ ⟨hR,hD,r2,q0,q1,rfl⟩
  refine AJ (λvs R' D'=>R' = Ry∧D' = (b,C 183 [I k,I a,I b2,I c2,I f,I w,I r',I n']) :: (rb,rdO v m3) :: (A ++ F)∧∃w' : Bool,vs = [Pt rb,I n,ov,I r,I i,Pt b,I k,.bool w']) (λK8 hK8=>?_) ?_
  ·refine jeq (jif (λh=>?_) (λh=>jeq (jif (λh=>?_) (λh=>jeq ?_))))<;>exact hK8 _ _ _ ⟨rfl,rfl,_,rfl⟩
  rintro e Rz Dz ⟨hR,hD,w',he⟩;subst hR;rw[hD];clear hD;simp only[List.map,zc,zl,zj,z_t] at he;simp only[he];refine jif (λh=>jad ?_) (λh=>jeq (jif (λh=>jgr (jif (λh=>jsu ?_) (λh=>?_))) (λh=>?_)))
  ·exact hK7 _ _ _ ⟨rfl,rfl,r + 1,by omega,by omega,rfl⟩
  ·have h:=z_f h;exact hK7 _ _ _ ⟨rfl,rfl,r - 1,by omega,by omega,rfl⟩
  ·exact hK7 _ _ _ ⟨rfl,rfl,r,by omega,by omega,rfl⟩
  ·exact hK7 _ _ _ ⟨rfl,rfl,r,by omega,by omega,rfl⟩
 rintro e Rz Dz ⟨hR,hD,r2,q0,q1,he⟩;subst hR;rw[hD];clear hD;simp only[List.map,zc,zl,zj,z_t] at he;simp only[he];refine jla (l:=[I k,I a,I b2,I c2,I f,I w,I r',I n']) (by exact z_n 8) rfl ?_;refine jbs (cs:=[I k,I a,I b2,I c2,I f,I w,I r',I n']) rfl rfl λbs=>?_
 refine Sv [eOp ⟨k,a,b2,c2,f,w,⟨r',n'⟩⟩] so rfl Nf (λq hq=>by rw[Z3.1 hq];rfl) rfl rfl rfl (by decide) (by rw[ZF,Z4];omega) λv' A' so'=>?_
 refine jad ?_;refine Ai A' (G:=(rb,rdO v m3) :: F) ?_;exact hK3 (n - (i + 1)) _ _ _ (by omega) ⟨rfl,i + 1,r2,l ++ [⟨k,a,b2,c2,f,w,⟨r',n'⟩⟩],v',A',m3,by omega,⟨by rw[Yn,hl];rfl,hvs.app (Vs.one (by exact h5.2))⟩,q0,by omega,by rw[Zg];exact so',by omega,by omega,rfl,rfl,rfl⟩
end draws
theorem EA.le {R R' : RM} {v:Value} {l:List (List Sm.Op)} (h:R.le R') (H:EA R v l):EA R' v l:=by
 obtain⟨vs,h1,h2,h3⟩:=H;exact⟨vs,h1.le h,h2,λi hi=>by obtain⟨x,hx,ho⟩:=h3 i hi;exact⟨x,hx,ho.le h⟩⟩
def PrW (R:RM) (rows:List (List Value)) (l:List (List Sm.Op)):Prop:=Rw (λrow p=>∃x,row = [x]∧Ops R x p) rows l
theorem PrW.len {R:RM} {rows:List (List Value)} {l:List (List Sm.Op)} (h:PrW R rows l):∀r∈rows,r.length = 1:=h.all λ_ _ ⟨_,hx,_⟩=>by rw[hx];rfl
theorem PrW.le {R R' : RM} {rows:List (List Value)} {l:List (List Sm.Op)} (hr:R.le R') (h:PrW R rows l):PrW R' rows l:=h.mono λ_ _ ⟨x,h1,h2⟩=>⟨x,h1,h2.le hr⟩
theorem WS:∀{rows:List (List Value)} (_:∀r∈rows,r.length = 1) (i:Nat) (h:i < rows.length),rows.flatten[i]? = (rows[i])[0]?
 | [],_,i,h=>absurd h (by simp)
 | a :: r,hw,i,h=>by
  have ha:a.length = 1:=hw a (by simp);rw[Zo];cases i with
  | zero=>rw[Zp (by omega)];rfl
  | succ i=>rw[aW (by omega),ha,Nat.add_sub_cancel,WS (λx hx=>hw x (by simp[hx])) i (by simpa using h)];rfl
theorem V8 {R:RM} {A E:Chs} {t:Nat} {rows:List (List Value)} {l:List (List Sm.Op)} {v:Value} {m:M} (so:SW t 1 rows v A) (hp:PrW R rows l) (H:∀R',R.le R'→EA R' v l→J R' E m):J R (A ++ E) m:=by
 refine jfw so hp.len λR' hR hfz=>H R' hR ⟨rows.flatten,?_,?_,λi hi=>?_⟩
 ·rw[← hp.1];exact hfz
 ·rw[CE hp.len,hp.1];omega
 ·have hi' : i < rows.length:=by rw[hp.1];exact hi
  obtain⟨x,h1,h2⟩:=hp.2 i hi' hi;exact⟨x,by rw[WS hp.len i hi',h1];rfl,h2.le hR⟩
theorem Ob:∀(q:List Sm.Op) (u:Nat),(Ab eOp q).take (u * 8) = Ab eOp (q.take u)
 | [],u=>by simp[Ab]
 | x :: r,0=>by simp[Ab]
 | x :: r,u + 1=>by
  have:=Ob r u;unfold Ab at this ⊢;rw[List.take_succ_cons,Zn,Zn,Zo,Zo,List.take_append,Yz (by show 8≤_;omega),← this];congr 2;show (u + 1) * 8 - 8 = _;omega
section draws
variable {R:RM} {rb:Nat} {v:Value} {m:Int}
theorem Qz {n:Nat} (hn:n≤39) (hb:Byt R v) (hm:0≤m∧m < 300000000):Dr HY [Pt rb,I n] R rb v m 1000 (λx R'=>∃l:List Sm.Op,(l.length≤40∧Vs l)∧Ops R' x l):=by
 refine Ng λF=>?_
 unfold ID;have fin:∀(l:List Sm.Op) (ov:Value) (A:Chs) (m' : Int),l.length≤40∧Vs l→SW 183 8 (l.map eOp) ov A→m≤m'→m'≤m + 1000→J R (A ++ (rb,rdO v m') :: F) (Er R F (λx R' A=>R.le R'∧(∃l:List Sm.Op,(l.length≤40∧Vs l)∧Ops R' x l)∧∃m',m≤m'∧m'≤m + 1000∧A = [(rb,rdO v m')]) ov):=λl ov A m' hl so h1 h2=>
  Wi so λR2 hR2 ho=>EO m' hR2 ⟨l,hl,ho⟩ h1 h2
 refine AJ (λvs R' D'=>R' = R∧∃(l:List Sm.Op) (ov:Value) (A:Chs) (m' : Int),(l.length≤40∧Vs l)∧SW 183 8 (l.map eOp) ov A∧m≤m'∧m'≤m + 1000∧D' = A ++ (rb,rdO v m') :: F∧vs = [ov]) (λK hK=>?_) ?_;rotate_left
 ·rintro e R1 D1 ⟨hR,l,ov,A,m',hl,so,h1,h2,hD,he⟩;subst hR;rw[hD];clear hD;simp only[List.map,zc,zl,zj,z_t] at he;simp only[he];exact fin l ov A m' hl so h1 h2
 refine AJ (λvs R' D'=>R' = R∧∃(l:List Sm.Op) (ov:Value) (A:Chs) (m' : Int),(l.length≤40∧Vs l)∧SW 183 8 (l.map eOp) ov A∧m≤m'∧m'≤m + 1000∧D' = A ++ (rb,rdO v m') :: F∧vs = [ov]) (λK2 hK2=>?_) ?_;rotate_left
 ·rintro e R1 D1 ⟨hR,l,ov,A,m',hl,so,h1,h2,hD,he⟩;simp only[List.map,zc,zl,zj,z_t] at he;simp only[he];exact hK _ _ _ ⟨hR,l,ov,A,m',hl,so,h1,h2,hD,rfl⟩
 refine jlp (λmm vs R' D'=>R' = R∧∃(l:List Sm.Op) (ov:Value) (A:Chs) (m' : Int),(l.length≤40∧Vs l)∧SW 183 8 (l.map eOp) ov A∧m≤m'∧m'≤m + 10 * l.length∧D' = A ++ (rb,rdO v m') :: F∧vs = [Pt rb,I n,ov]∧mm = 40 - l.length)
  (n:=40) ⟨rfl,[],.slice none 0 0,[],m,⟨by decide,Vs.nil⟩,.inl ⟨rfl,rfl,rfl⟩,by omega,by simp,rfl,rfl,rfl⟩ ?_
 rintro mm e R1 D1 K3 ⟨hR,l,ov,A,m',⟨hl,hv⟩,so,h1,h2,hD,he,hmm⟩ hK3;subst hR;rw[hD];clear hD;simp only[List.map,zc,zl,zj,z_t] at he;simp only[he];have hsl:=so.sl;rw[ZF] at hsl;refine CN hsl (jad (jlt (jif (λhc=>?_) (λhc=>?_))));rotate_left
 ·exact hK2 _ _ _ ⟨rfl,l,ov,A,m',⟨hl,hv⟩,so,h1,by omega,rfl,rfl⟩
 have hc:=z_f hc;have hl32:l.length≤32:=by omega
 refine jpk hb ⟨by omega,by omega⟩ λy1 _ _=>jad (jpk hb ⟨by omega,by omega⟩ λy2 _ _=>?_)
 refine jbd (cs:=[I (1 + y1),I y2]) rfl rfl (jbd (cs:=[I 1,I 0,I 0,I 0,I 0,I 0,I (1 + y1),I y2]) rfl rfl ?_);refine jbs (cs:=[I 1,I 0,I 0,I 0,I 0,I 0,I (1 + y1),I y2]) rfl rfl λbs=>?_
 have app:∀{D:Chs} {b cx:Nat} {cs:List Value} {l1:List Sm.Op} {ov1:Value} {A1 E D1:Chs} {k:Value→M} (l2:List Sm.Op),SW 183 8 (l1.map eOp) ov1 A1→Tk D b (C 183 cs) D1→Sp D1 A1 E→cs = (l2.map eOp).flatten→l1.length + l2.length≤40→
   (∀ov2 A2,SW 183 8 ((l1 ++ l2).map eOp) ov2 A2→J R1 (A2 ++ E) (k ov2))→J R1 D (AP 183 8 64 (cl z183) ov1 (S0 b l2.length cx) k):=λ{D b cx cs l1 ov1 A1 E D1 k} l2 so1 tk sp hcs hlen H=>by
  refine Sv (tk:=tk) (sp:=sp) (l2.map eOp) so1 hcs Nf Nf rfl (Oo λr hr=>?_) (by rw[ZF]) (by decide) (by rw[ZF,ZF];omega) λv' A' so'=>H v' A' (by rw[Zg];exact so')
  obtain⟨x,_,rfl⟩:=ZU.1 hr;rfl
 refine app [⟨1,0,0,0,0,0,⟨1 + y1,y2⟩⟩] so inferInstance inferInstance rfl (by rw[Z4];omega) λov1 A1 so1=>?_
 generalize hl1:l ++ [(⟨1,0,0,0,0,0,⟨1 + y1,y2⟩⟩:Sm.Op)] = l1 at so1;have hv1:Vs l1:=hl1▸hv.app (Vs.one (by exact Rn.zero));have hl1l:l1.length = l.length + 1:=by rw[← hl1];simp
 have hsl1:=so1.sl;rw[ZF] at hsl1;refine AJ (λvs R' D'=>R' = R1∧∃(l2:List Sm.Op) (ov:Value) (A:Chs) (m2:Int),l.length < l2.length∧l2.length≤l.length + 7∧(l2.length≤39∧Vs l2)∧SW 183 8 (l2.map eOp) ov A∧m'≤m2∧m2≤m' + 6∧D' = A ++ (rb,rdO v m2) :: F∧vs = [Pt rb,I n,ov]) (λK4 hK4=>?_) ?_
 ·refine jpk hb ⟨by omega,by omega⟩ λy3 _ _=>?_
  refine AJ (λvs R' D'=>R' = R1∧∃(l2:List Sm.Op) (ov:Value) (A:Chs) (m2:Int),l.length < l2.length∧l2.length≤l.length + 7∧(l2.length≤39∧Vs l2)∧SW 183 8 (l2.map eOp) ov A∧m'≤m2∧m2≤m' + 6∧D' = A ++ (rb,rdO v m2) :: F∧vs = [Pt rb,I n,ov]) (λK5 hK5=>?_) ?_;rotate_left
  ·rintro e Rx Dx ⟨hR,l2,ov,A,m2,q1,q2,q3,so2,q4,q5,hD,he⟩;simp only[List.map,zc,zl,zj,z_t] at he;simp only[he];exact hK4 _ _ _ ⟨hR,l2,ov,A,m2,q1,q2,q3,so2,q4,q5,hD,rfl⟩
  refine jeq (jif (λ_=>?_) (λ_=>jeq (jif (λ_=>?_) (λ_=>jeq (jif (λ_=>?_) (λ_=>jeq (jif (λ_=>?_) (λ_=>jeq (jif (λ_=>?_) (λ_=>?_))))))))))
  ·refine jbd (cs:=[I 10,I 1,I 0,I 0,I 0,I 0,I 0,I 0]) rfl rfl (jbd (cs:=[I 3,I 1,I 0,I 0,I 0,I 0,I 0,I 0]) rfl rfl (jbd (cs:=[I 5,I 1,I 0,I 0,I 0,I 0,I 0,I 0]) rfl rfl (jbd (cs:=[I 11,I 1,I 0,I 0,I 0,I 0,I 0,I 0]) rfl rfl ?_)));refine jbs (cs:=(([⟨10,1,0,0,0,0,⟨0,0⟩⟩,⟨3,1,0,0,0,0,⟨0,0⟩⟩,⟨5,1,0,0,0,0,⟨0,0⟩⟩,⟨11,1,0,0,0,0,⟨0,0⟩⟩]:List Sm.Op).map eOp).flatten) rfl rfl λbt=>?_
   refine app [⟨10,1,0,0,0,0,⟨0,0⟩⟩,⟨3,1,0,0,0,0,⟨0,0⟩⟩,⟨5,1,0,0,0,0,⟨0,0⟩⟩,⟨11,1,0,0,0,0,⟨0,0⟩⟩] so1 inferInstance inferInstance rfl (by simp;omega) λov2 A2 so2=>?_
   exact hK5 _ _ _ ⟨rfl,_,ov2,A2,_,by simp;omega,by simp;omega,⟨by simp;omega,hv1.app (by simp[Vs,Rn]<;>omega)⟩,so2,by omega,by omega,rfl,rfl⟩
  ·refine jpk hb ⟨by omega,by omega⟩ λz1 _ _=>jbd (cs:=[I 3,I 0,I 1,I 0,I z1,I 0,I 0,I 0]) rfl rfl ?_
   refine jbs (cs:=[I 3,I 0,I 1,I 0,I z1,I 0,I 0,I 0]) rfl rfl λbt=>?_
   refine app [⟨3,0,1,0,z1,0,⟨0,0⟩⟩] so1 inferInstance inferInstance rfl (by simp;omega) λov2 A2 so2=>?_
   exact hK5 _ _ _ ⟨rfl,_,ov2,A2,_,by simp;omega,by simp;omega,⟨by simp;omega,hv1.app (by simp[Vs,Rn]<;>omega)⟩,so2,by omega,by omega,rfl,rfl⟩
  ·refine jpk hb ⟨by omega,by omega⟩ λz1 _ _=>jbd (cs:=[I 2,I 0,I 0,I 0,I z1,I 0,I 0,I 0]) rfl rfl (jbd (cs:=[I 3,I 1,I 2,I 0,I 0,I 0,I 0,I 0]) rfl rfl (jpk hb ⟨by omega,by omega⟩ λz2 _ _=>jbd (cs:=[I 3,I 0,I 1,I 0,I z2,I 0,I 0,I 0]) rfl rfl (jbd (cs:=[I 8,I 0,I 0,I 0,I 0,I 0,I 0,I 0]) rfl rfl ?_)))
   refine jbs (cs:=(([⟨2,0,0,0,z1,0,⟨0,0⟩⟩,⟨3,1,2,0,0,0,⟨0,0⟩⟩,⟨3,0,1,0,z2,0,⟨0,0⟩⟩,⟨8,0,0,0,0,0,⟨0,0⟩⟩]:List Sm.Op).map eOp).flatten) rfl rfl λbt=>?_
   refine app [⟨2,0,0,0,z1,0,⟨0,0⟩⟩,⟨3,1,2,0,0,0,⟨0,0⟩⟩,⟨3,0,1,0,z2,0,⟨0,0⟩⟩,⟨8,0,0,0,0,0,⟨0,0⟩⟩] so1 inferInstance inferInstance rfl (by simp;omega) λov2 A2 so2=>?_
   exact hK5 _ _ _ ⟨rfl,_,ov2,A2,_,by simp;omega,by simp;omega,⟨by simp;omega,hv1.app (by simp[Vs,Rn]<;>omega)⟩,so2,by omega,by omega,rfl,rfl⟩
  ·refine jpk hb ⟨by omega,by omega⟩ λz1 _ _=>jbd (cs:=[I 2,I 0,I 0,I 0,I z1,I 0,I 0,I 0]) rfl rfl (jbd (cs:=[I 7,I 0,I 2,I 1,I z1,I 0,I 0,I 0]) rfl rfl (jbd (cs:=[I 6,I 1,I 2,I 0,I 0,I 0,I 0,I 0]) rfl rfl (jbd (cs:=[I 8,I 0,I 0,I 0,I 0,I 0,I 0,I 0]) rfl rfl ?_)))
   refine jbs (cs:=(([⟨2,0,0,0,z1,0,⟨0,0⟩⟩,⟨7,0,2,1,z1,0,⟨0,0⟩⟩,⟨6,1,2,0,0,0,⟨0,0⟩⟩,⟨8,0,0,0,0,0,⟨0,0⟩⟩]:List Sm.Op).map eOp).flatten) rfl rfl λbt=>?_
   refine app [⟨2,0,0,0,z1,0,⟨0,0⟩⟩,⟨7,0,2,1,z1,0,⟨0,0⟩⟩,⟨6,1,2,0,0,0,⟨0,0⟩⟩,⟨8,0,0,0,0,0,⟨0,0⟩⟩] so1 inferInstance inferInstance rfl (by simp;omega) λov2 A2 so2=>?_
   exact hK5 _ _ _ ⟨rfl,_,ov2,A2,_,by simp;omega,by simp;omega,⟨by simp;omega,hv1.app (by simp[Vs,Rn]<;>omega)⟩,so2,by omega,by omega,rfl,rfl⟩
  ·refine jpk hb ⟨by omega,by omega⟩ λz1 _ _=>jbd (cs:=[I 2,I 0,I 0,I 0,I z1,I 0,I 0,I 0]) rfl rfl (jpk hb ⟨by omega,by omega⟩ λz2 _ _=>jbd (cs:=[I 4,I 2,I 0,I 0,I 0,I z2,I 0,I 0]) rfl rfl (jbd (cs:=[I 5,I 2,I 0,I 0,I 0,I 0,I 0,I 0]) rfl rfl (jbd (cs:=[I 2,I 2,I 0,I 0,I 0,I 0,I 0,I 0]) rfl rfl (jbd (cs:=[I 8,I 0,I 0,I 0,I 0,I 0,I 0,I 0]) rfl rfl (jbd (cs:=[I 8,I 0,I 0,I 0,I 0,I 0,I 0,I 0]) rfl rfl ?_)))))
   refine jbs (cs:=(([⟨2,0,0,0,z1,0,⟨0,0⟩⟩,⟨4,2,0,0,0,z2,⟨0,0⟩⟩,⟨5,2,0,0,0,0,⟨0,0⟩⟩,⟨2,2,0,0,0,0,⟨0,0⟩⟩,⟨8,0,0,0,0,0,⟨0,0⟩⟩,⟨8,0,0,0,0,0,⟨0,0⟩⟩]:List Sm.Op).map eOp).flatten) rfl rfl λbt=>?_
   refine app [⟨2,0,0,0,z1,0,⟨0,0⟩⟩,⟨4,2,0,0,0,z2,⟨0,0⟩⟩,⟨5,2,0,0,0,0,⟨0,0⟩⟩,⟨2,2,0,0,0,0,⟨0,0⟩⟩,⟨8,0,0,0,0,0,⟨0,0⟩⟩,⟨8,0,0,0,0,0,⟨0,0⟩⟩] so1 inferInstance inferInstance rfl (by simp;omega) λov2 A2 so2=>?_
   obtain⟨l3,hl3,so3⟩:∃l3:List Sm.Op,(l3.length = l1.length + 6∧Vs l3)∧SW 183 8 (l3.map eOp) ov2 A2:=⟨_,⟨by simp,hv1.app (by simp[Vs,Rn]<;>omega)⟩,so2⟩;obtain⟨hl3,hv3⟩:=hl3;have hsl2:=so3.sl;rw[ZF] at hsl2;refine CN hsl2 (jgr (jif (λhg=>?_) (λhg=>?_)))
   ·have hg:=z_f hg;refine Wi so3 λR2 hR2 ho=>YV ho (by decide) (by omega) λv' hv'=>EO _ hR2 ⟨l3.take 38,⟨by rw[Z0];omega,λo ho=>hv3 o (ZL ho)⟩,?_⟩ (by omega) (by omega)
    unfold Ops;rw[Z0,Nat.min_eq_left (by omega),← Ob];exact hv'
   ·have hg:=z_g hg;exact hK5 _ _ _ ⟨rfl,l3,ov2,A2,_,by omega,by omega,⟨by omega,hv3⟩,so3,by omega,by omega,rfl,rfl⟩
  ·refine Ai A1 (G:=(rb,rdO v (m' + 1 + 1 + 1)) :: F) ?_;exact hK5 _ _ _ ⟨rfl,l1,ov1,A1,_,by omega,by omega,⟨by omega,hv1⟩,so1,by omega,by omega,rfl,rfl⟩
 rintro e Rx Dx ⟨hR,l2,ov,A,m2,q1,q2,⟨q3,hv2⟩,so2,q4,q5,hD,he⟩;subst hR;rw[hD];clear hD;simp only[List.map,zc,zl,zj,z_t] at he;simp only[he];refine jbd (cs:=[I 8,I 0,I 0,I 0,I 0,I 0,I 0,I 0]) rfl rfl (jbs (cs:=[I 8,I 0,I 0,I 0,I 0,I 0,I 0,I 0]) rfl rfl λbt=>?_);refine app [⟨8,0,0,0,0,0,⟨0,0⟩⟩] so2 inferInstance inferInstance rfl (by simp;omega) λov2 A2 so3=>?_
 exact hK3 (40 - (l2.length + 1)) _ _ _ (by omega) ⟨rfl,_,ov2,A2,_,⟨by simp;omega,hv2.app (Vs.one (by exact Rn.zero))⟩,so3,by omega,by simp;omega,rfl,rfl,by simp⟩
end draws
end Go.Lf
end
