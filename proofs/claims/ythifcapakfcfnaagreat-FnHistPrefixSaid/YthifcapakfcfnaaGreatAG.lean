/- A part of the proof of the given row. Conditions: none. -/
import Derived.Test.YthifcapakfcfnaaGreatAF
set_option linter.unusedVariables false
set_option linter.unusedSimpArgs false
set_option maxRecDepth 100000
section
namespace Sm
structure Ow (x:X) (o dst size:Int):Prop where
 d0:16≤dst
 k:(rv x.t (dst / 16)).kind = 2
 o:(rv x.t (dst / 16)).AR = o
 top:(rv x.t (dst / 16)).top = dst
 fit:dst + size≤16 * (dst / 16) + 16
theorem Ow.inn {x:X} {o dst size:Int} (O:Ow x o dst size):dst / 16 < x.t.length:=by
 by_cases c:dst / 16 < x.t.length
 ·exact c
 ·have:=O.k;rw[Cn (by have:=O.d0;omega) ω] at this;cases this
theorem Ow.wl {x:X} {o dst size:Int} (O:Ow x o dst size) (G:Geo x.w x.t x.B):dst + size≤x.w.length:=by
 have h1:=O.inn;have h2:=G.len;have h3:=O.fit;omega
theorem Ow.stable {o p:Int} {x y:X} {dst size:Int} (O:Ow x o dst size) (K:Kp p x y) (hp:p≠o):Ow y o dst size∧∀z,dst≤z→z < dst + size→wv y.w z = wv x.w z:=by
 have h0:=O.d0;obtain⟨⟨e1,e2,e3⟩,f⟩:=K.own (dst / 16) ω O.k (by rw[O.o];exact hp.symm);refine⟨⟨O.d0,e1,by rw[e2];exact O.o,by rw[e3];exact O.top,O.fit⟩,λz h1 h2=>f z (by rw[O.top];exact h1) ?_⟩;have:=O.fit;omega
theorem sep {w:List Int} {t:List Rg} {B:Int→Prop} (G:Geo w t B) {a b k l:Int} (ha:B a) (hb:B b) (k0:0≤k) (k1:k < sz w a) (l0:0≤l) (l1:l < sz w b) (h:a + k = b + l):a = b∧k = l:=by
 rcases Int.lt_trichotomy a b with c | c | c
 ·have:=G.dj a b ha hb c;omega
 ·omega
 ·have:=G.dj b a hb ha c;omega
theorem Ow.sep {x:X} {o dst size z:Int} (O:Ow x o dst size) (G:Geo x.w x.t x.B) (h1:dst≤z) (h2:z < dst + size) {a k:Int} (ha:x.B a) (k0:0≤k) (k1:k < sz x.w a):a + k≠z:=by
 intro h;obtain⟨g1,g2,g3,g4,g5,g6,g7,g8⟩:=G.inn ha;have e1:=O.fit;have e0:=O.d0;have:a / 16 = dst / 16:=ω
 rw[this,O.top] at g4;omega
theorem NQ {x y:X} (hm:y.m = x.m) (hs:∀a,0≤a→mv x.m a = true→sz y.w a = sz x.w a) (r:Int):cnt y r = cnt x r:=by
 unfold cnt;congr 1;funext k;congr 1;apply propext;constructor
 ·rintro⟨a,h0,h1,h2,h3⟩;rw[hm] at h1;exact⟨a,h0,h1,h2,by rw[← hs a h0 h1];exact h3⟩
 ·rintro⟨a,h0,h1,h2,h3⟩;exact⟨a,h0,by rw[hm];exact h1,h2,by rw[hs a h0 h1];exact h3⟩
theorem Sh.wr {x:X} {w' : List Int} (H:Sh x) (hl:w'.length = x.w.length) (hs:∀a,x.B a→wv w' (a + 1) = wv x.w (a + 1)) (hst:∀a,x.B a→¬ Aw x.t a→wv w' a = a)
  (hfw:∀a,x.B a→Aw x.t a→wv w' a≠a→x.L (wv w' a)∧¬ Aw x.t (wv w' a)∧wv x.w (wv w' a + 1) = wv x.w (a + 1))
  (hrf:∀a j,x.L a→0≤j→j < (shp x.w a).refs→wv w' (a + 2 + j)≠0→x.L (wv w' (a + 2 + j)))
  (hun:x.ph = 1→∀a j,x.L a→a < x.tm a→0≤j→j < (shp x.w a).refs→wv w' (a + 2 + j) = x.q (a + 2 + j)∨Lg x (x.q (a + 2 + j)))
  (haf:x.ph = 3→∀a,x.L a→Aw x.t a→wv w' a≠a):Sh { x with w:=w' }:=by
 have hz:∀a,x.B a→sz w' a = sz x.w a:=λa h=>Ew (hs a h)
 have hp:∀a,x.B a→shp w' a = shp x.w a:=λa h=>DD (hs a h)
 have g:=H.g;refine⟨⟨by rw[hl];exact g.len,g.ok,λa h=>?_,λa h=>?_,g.bs,λa b h h' hab=>?_⟩,H.lb,λa j h h0 h1 h2=>?_,hst,λa h hf hne=>?_,by rw[hl];exact H.ml,H.mt,H.ph,H.nf,H.lm,H.pl,H.fm,H.nb,haf,λh1=>?_⟩
 ·obtain⟨a1,a2,a3⟩:=g.at_ a h;exact⟨a1,by rw[hz a h];exact a2,by rw[hs a h];exact a3⟩
 ·rw[hz a h];exact g.nx a h
 ·rw[hz a h];exact g.dj a b h h' hab
 ·exact hrf a j h h0 (by rw[← hp a (H.lb a h)];exact h1) h2
 ·obtain⟨b1,b2,b3⟩:=hfw a h hf hne;refine⟨b1,b2,?_⟩;show wv w' (wv w' a + 1) = wv w' (a + 1);rw[hs a h,hs _ (H.lb _ b1)];exact b3
 ·have M:=H.mp h1;refine⟨M.sk,M.old,λY h2 h3=>M.mn Y h2 λa j ha ht hy j0 j1 hq=>h3 a j ha ht hy j0 (by show j < (shp w' a).refs;rw[hp a (H.lb a ha)];exact j1) hq,M.l0,λa j ha ht j0 j1=>M.ql a j ha ht j0 (by have j1:j < (shp w' a).refs:=j1;rw[← hp a (H.lb a ha)];exact j1),λa j ha ht j0 j1=>?_,λr r0 r1=>?_⟩
  ·exact hun h1 a j ha ht j0 (by have j1:j < (shp w' a).refs:=j1;rw[← hp a (H.lb a ha)];exact j1)
  ·show (rv x.t r).AH = _;rw[M.cov r r0 r1,NQ (x:=x) (y:={ x with w:=w' }) rfl λa a0 ha=>hz a (H.lb a (H.mt a a0 ha).1)]
theorem Pj {x:X} {o dst size z v:Int} (H:Sh x) (O:Ow x o dst size) (h1:dst≤z) (h2:z < dst + size):Sh { x with w:=AM x.w z v }∧Kp o x { x with w:=AM x.w z v }:=by
 have d0:=O.d0;have wl:=O.wl H.g;have e:∀u,0≤u→wv (AM x.w z v) u = if u = z then v else wv x.w u:=λu hu=>Co ω ω hu
 have hw:∀a k,x.B a→0≤k→k < sz x.w a→wv (AM x.w z v) (a + k) = wv x.w (a + k):=λa k h k0 k1=>by
  have:=(H.g.at_ a h).1;rw[e _ ω,if_neg (O.sep H.g h1 h2 h k0 k1)]
 have hh:∀a,x.B a→wv (AM x.w z v) a = wv x.w a:=λa h=>by
  have:=hw a 0 h ω (by have:=H.g.inn h;omega);rwa [Int.add_zero] at this
 have hs:∀a,x.B a→wv (AM x.w z v) (a + 1) = wv x.w (a + 1):=λa h=>hw a 1 h ω (by have:=H.g.inn h;omega)
 have hr:∀a j,x.L a→0≤j→j < (shp x.w a).refs→wv (AM x.w z v) (a + 2 + j) = wv x.w (a + 2 + j):=λa j h j0 j1=>by
  have:=hw a (2 + j) (H.lb a h) ω (by have:=Dp x.w a;omega);rwa [← Int.add_assoc] at this
 refine⟨H.wr σ hs (λa h hf=>by rw[hh a h];exact H.st a h hf) (λa h hf hne=>by rw[hh a h] at hne ⊢;exact H.fw a h hf hne) (λa j h j0 j1=>by rw[hr a j h j0 j1];exact H.rf a j h j0 j1) (λh1 a j h ht j0 j1=>by rw[hr a j h j0 j1];exact (H.mp h1).un a j h ht j0 j1) (λh3 a h hf=>by rw[hh a (H.lb a h)];exact H.af h3 a h hf),?_⟩;refine⟨σ,rfl,rfl,λ_ h=>h,λ_ h=>h,λ_ h _=>h,λ_ _=>Iff.rfl,λ_ _=>rfl,λr r0 hk ho=>⟨⟨hk,rfl,rfl⟩,λu hu hu2=>?_⟩,hs,λa u h hf u0 u1=>?_,λa h _=>hh a h,λ_ _ h=>h,rfl,λ_ a j h hf j0 j1 _=>⟨h,?_⟩⟩
 ·show wv (AM x.w z v) u = wv x.w u;have hne:r≠dst / 16:=λc=>by subst c;exact ho O.o
  by_cases c:0≤u
  ·rw[e u c,if_neg];intro c2;subst c2;have:=O.fit;have t0:16 * r≤(rv x.t r).top:=by
    by_cases c3:r < x.t.length
    ·by_cases c4:1≤r
     ·exact (H.g.ok.row r c4 c3).t0
     ·have:r = 0:=ω
      subst this;rw[H.g.ok.e] at hk;cases hk
    ·rw[Cn r0 ω] at hk;cases hk
   omega
  ·by_cases c3:r < x.t.length
   ·by_cases c4:1≤r
    ·have:=(H.g.ok.row r c4 c3).t0;omega
    ·have:r = 0:=ω
     subst this;rw[H.g.ok.e] at hk;cases hk
   ·rw[Cn r0 ω] at hk;cases hk
 ·have:=hw a (u - a) (H.lb a h) ω ω;rwa [show a + (u - a) = u from ω] at this
 ·have j1:j < (shp (AM x.w z v) a).refs:=j1;rw[DD (hs a (H.lb a h))] at j1;exact (hr a j h j0 j1).symm
theorem RP {x:X} (H:Sh x) {r:Int} (r0:0≤r) (hk:(rv x.t r).kind≠0):1≤r∧r < x.t.length:=by
 by_cases c3:r < x.t.length
 ·by_cases c4:1≤r
  ·exact⟨c4,c3⟩
  ·have:r = 0:=ω
   subst this;rw[H.g.ok.e] at hk;exact absurd rfl hk
 ·rw[Cn r0 ω] at hk;exact absurd rfl hk
theorem room {x:X} {t' : List Rg} {o size d:Int} (H:Sh x) (P:N3 x.t o size t' d):Sh { x with t:=t' }∧Kp o x { x with t:=t' }∧Ow { x with t:=t' } o d size:=by
 have hf:∀a,Aw t' a↔Aw x.t a:=λa=>⟨λh=>⟨h.1,(P.frm (a / 16) (by have:=h.1;omega)).1 h.2⟩,λh=>⟨h.1,(P.frm (a / 16) (by have:=h.1;omega)).2 h.2⟩⟩
 have g:=H.g;have p0:∀a,x.B a→0≤a / 16:=λa h=>by have:=g.inn h;omega
 have tmb:∀a,x.B a→X.tm { x with t:=t' } a = x.tm a:=λa h=>P.Al _ (p0 a h)
 have tm:∀a,x.L a→X.tm { x with t:=t' } a = x.tm a:=λa h=>tmb a (H.lb a h)
 have lg:∀v,Lg x v→Lg { x with t:=t' } v:=λv h=>h.imp id λh=>h.imp id λh=>h.imp id λh=>h.imp id λh=>⟨h.1,by have:=P.Al (v / 16) (by have:=h.1;omega);have h2:x.tm v≤v:=h.2;show (rv t' (v / 16)).Al≤v;rw[this];exact h2⟩
 refine⟨⟨⟨by rw[P.len];exact g.len,P.ok,λa h=>?_,λa h=>?_,λr r0 r1=>?_,g.dj⟩,H.lb,H.rf,λa h hn=>H.st a h λc=>hn ((hf a).2 c),λa h hfr hne=>?_,H.ml,λa a0 h=>?_,H.ph,λhp r r0 hk=>H.nf hp r r0 ((P.frm r r0).1 hk),λhp a h ht=>?_,λa h=>⟨(H.pl a h).1,λc=>(H.pl a h).2 ((hf a).1 c)⟩,λa h hfr=>H.fm a h ((hf a).1 hfr),λh1 a h ht=>H.nb h1 a h (by rw[← tmb a h];exact ht),λh3 a h hfr=>H.af h3 a h ((hf a).1 hfr),λhp=>?_⟩,?_,P.d0,P.dk,P.do_,P.dt,P.fit⟩
 ·rw[P.top _ (p0 a h)];exact g.at_ a h
 ·rw[P.top _ (p0 a h)];exact g.nx a h
 ·rw[P.top r ω];exact g.bs r r0 (by rw[← P.len];exact r1)
 ·obtain⟨b1,b2,b3⟩:=H.fw a h ((hf a).1 hfr) hne;exact⟨b1,λc=>b2 ((hf _).1 c),b3⟩
 ·obtain⟨b1,b2⟩:=H.mt a a0 h;exact⟨b1,by rw[tm a b1];exact b2⟩
 ·rw[tm a h] at ht;exact H.lm hp a h ht
 ·have M:=H.mp hp;refine⟨M.sk,M.old,λY h2 h3 a ha ht=>M.mn Y h2 (λa j ha ht hy j0 j1 hq=>h3 a j ha (by rw[tm a ha];exact ht) hy j0 j1 hq) a ha (by rw[tm a ha] at ht;exact ht),λa h=>⟨(M.l0 a h).1,by rw[tm a (M.l0 a h).1];exact (M.l0 a h).2.1,lg a (M.l0 a h).2.2⟩,λa j ha ht j0 j1 hq=>by
   obtain⟨q1,q2⟩:=M.ql a j ha (by rw[tm a ha] at ht;exact ht) j0 j1 hq
   exact⟨q1,by rw[tm _ q1];exact q2⟩,λa j ha ht j0 j1=>(M.un a j ha (by rw[tm a ha] at ht;exact ht) j0 j1).imp id (lg _),λr r0 r1=>?_⟩
  show (rv t' r).AH = _;rw[P.AH r ω];exact M.cov r r0 (by rw[← P.len];exact r1)
 ·refine⟨rfl,P.len,rfl,λ_ h=>h,λ_ h=>h,λ_ h _=>h,P.frm,P.Al,λr r0 hk ho=>⟨by rw[show rv ({ x with t:=t' }:X).t r = rv x.t r from P.oth r r0 hk ho];exact⟨hk,rfl,rfl⟩,λ_ _ _=>rfl⟩,λ_ _=>rfl,λ_ _ _ _ _ _=>rfl,λ_ _ _=>rfl,λ_=>lg,rfl,λ_ a j h _ _ _ _=>⟨h,rfl⟩⟩
def X.pub (x:X) (dst size:Int):X:={ x with t:=AM x.t (dst / 16) { rv x.t (dst / 16) with top:=dst + size },B:=λa=>x.B a∨a = dst,L:=λa=>x.L a∨a = dst }
theorem pub {x:X} {o dst size:Int} (H:Sh x) (O:Ow x o dst size) (hz:sz x.w dst = size) (h2:(AN (wv x.w (dst + 1))).2 = true) (hh:wv x.w dst = dst)
  (hr:∀j,0≤j→j < (shp x.w dst).refs→wv x.w (dst + 2 + j)≠0→x.L (wv x.w (dst + 2 + j)))
  (hc:x.ph = 3→∀j,0≤j→j < (shp x.w dst).refs→¬ Aw x.t (wv x.w (dst + 2 + j))):Sh (x.pub dst size)∧Kp o x (x.pub dst size):=by
 have d0:=O.d0;have inn:=O.inn;have fit:=O.fit;have s2:=Dp x.w dst;have g:=H.g;have R:=g.ok.row (dst / 16) ω inn;have top:=O.top;have e:∀r,0≤r→rv (x.pub dst size).t r = if r = dst / 16 then { rv x.t (dst / 16) with top:=dst + size } else rv x.t r:=λr r0=>Cv ω inn r0
 have ek:∀r,0≤r→(rv (x.pub dst size).t r).kind = (rv x.t r).kind:=λr r0=>by
  rw[e r r0];split
  ·subst r;rfl
  ·rfl
 have et:∀r,0≤r→(rv (x.pub dst size).t r).Al = (rv x.t r).Al:=λr r0=>by
  rw[e r r0];split
  ·subst r;rfl
  ·rfl
 have el:∀r,0≤r→(rv (x.pub dst size).t r).AH = (rv x.t r).AH:=λr r0=>by
  rw[e r r0];split
  ·subst r;rfl
  ·rfl
 have eo:∀r,0≤r→(rv (x.pub dst size).t r).AR = (rv x.t r).AR:=λr r0=>by
  rw[e r r0];split
  ·subst r;rfl
  ·rfl
 have ep:∀r,0≤r→(rv (x.pub dst size).t r).top = if r = dst / 16 then dst + size else (rv x.t r).top:=λr r0=>by
  rw[e r r0];split
  ·rfl
  ·rfl
 have hf:∀a,Aw (x.pub dst size).t a↔Aw x.t a:=λa=>⟨λh=>⟨h.1,by have:=h.1;have:=h.2;rw[ek _ ω] at this;exact this⟩,λh=>⟨h.1,by have:=h.1;rw[ek _ ω];exact h.2⟩⟩
 have nfd:¬ Aw x.t dst:=λc=>by have:=c.2;rw[O.k] at this;cases this
 have lt:x.tm dst≤dst:=by have:=R.s1;rw[top] at this;exact this
 have tm:∀a,0≤a→(x.pub dst size).tm a = x.tm a:=λa h=>et _ ω
 have lg:∀v,Lg x v→Lg (x.pub dst size) v:=λv h=>h.imp id λh=>h.imp id λh=>h.imp id λh=>h.imp id λh=>⟨h.1,by rw[tm v h.1];exact h.2⟩
 have len:(x.pub dst size).t.length = x.t.length:=by simp[X.pub]
 have nb:∀a,x.B a→a / 16 = dst / 16→a + sz x.w a≤dst:=λa h c=>by
  have:=(g.at_ a h).2.1;rw[c,top] at this;exact this
 refine⟨⟨⟨by rw[len];exact g.len,?_,?_,?_,?_,?_⟩,?_,?_,?_,?_,H.ml,?_,H.ph,λhp r r0 hk=>H.nf hp r r0 (by rw[ek r r0] at hk;exact hk),?_,?_,?_,?_,?_,?_⟩,?_⟩
 ·refine TOk.set g.ok ω inn ⟨R.k0,R.k1,?_,?_,R.s0,?_,R.l0,?_,λh=>?_,R.ow,R.o0,R.o1⟩ λs s0 s1 hne ho he=>hne (g.ok.own s (dst / 16) s0 s1 ω inn (by rw[he];exact ho) he)
  ·show 16 * (dst / 16)≤dst + size;omega
  ·show dst + size≤_;omega
  ·have:=R.s1;show (rv x.t (dst / 16)).Al≤dst + size;omega
  ·have:=R.l1;show (rv x.t (dst / 16)).AH≤dst + size - 16 * (dst / 16);omega
  ·exact absurd (O.k.symm.trans h) δ
 ·rintro a (h | h)
  ·obtain⟨a1,a2,a3⟩:=g.at_ a h;refine⟨a1,?_,a3⟩;rw[ep _ ω];show a + sz x.w a≤_;split
   ·have:=nb a h (by assumption);omega
   ·exact a2
  ·subst h;refine⟨d0,?_,h2⟩;rw[ep _ ω,if_pos rfl];show a + sz x.w a≤_;omega
 ·rintro a (h | h)
  ·have a1:=(g.at_ a h).1;rw[ep _ ω];show a + sz x.w a = _∨(x.B (a + sz x.w a)∨a + sz x.w a = dst);rcases g.nx a h with c | c
   ·split
    ·rename_i c2;rw[c2,top] at c;exact .inr (.inr c)
    ·exact .inl c
   ·exact .inr (.inl c)
  ·subst h;left;rw[ep _ ω,if_pos rfl];show a + sz x.w a = _;rw[hz]
 ·intro r r0 r1;rw[len] at r1;rw[ep r ω];rcases g.bs r r0 r1 with c | c
  ·split
   ·rename_i c2;rw[c2,top] at c;right;right;rw[c2];omega
   ·exact .inl c
  ·exact .inr (.inl c)
 ·rintro a b (h | h) (h' | h') hab
  ·exact g.dj a b h h' hab
  ·subst h';show a + sz x.w a≤b;by_cases c:a / 16 = b / 16
   ·exact nb a h c
   ·have:=g.inn h;omega
  ·subst h;show a + sz x.w a≤b;by_cases c:b / 16 = a / 16
   ·have:=nb b h' c;have:=g.inn h';omega
   ·omega
  ·omega
 ·rintro a (h | h)
  ·exact .inl (H.lb a h)
  ·exact .inr h
 ·rintro a j (h | h) j0 j1 hne
  ·exact .inl (H.rf a j h j0 j1 hne)
  ·subst h;exact .inl (hr j j0 j1 hne)
 ·rintro a (h | h) hn
  ·exact H.st a h λc=>hn ((hf a).2 c)
  ·subst h;exact hh
 ·rintro a (h | h) hfr hne
  ·obtain⟨b1,b2,b3⟩:=H.fw a h ((hf a).1 hfr) hne;exact⟨.inl b1,λc=>b2 ((hf _).1 c),b3⟩
  ·subst h;exact absurd ((hf a).1 hfr) nfd
 ·intro a a0 h;obtain⟨b1,b2⟩:=H.mt a a0 h;exact⟨.inl b1,by rw[tm a a0];exact b2⟩
 ·rintro hp a (h | h) ht
  ·rw[tm a (by have:=(g.at_ a (H.lb a h)).1;omega)] at ht;exact H.lm hp a h ht
  ·subst h;rw[tm a ω] at ht;omega
 ·intro a h;exact⟨.inl (H.pl a h).1,λc=>(H.pl a h).2 ((hf a).1 c)⟩
 ·rintro a (h | h) hfr
  ·exact H.fm a h ((hf a).1 hfr)
  ·subst h;exact absurd ((hf a).1 hfr) nfd
 ·rintro h1 a (h | h) ht
  ·left;rw[tm a (by have:=(g.at_ a h).1;omega)] at ht;exact H.nb h1 a h ht
  ·exact .inr h
 ·rintro h3 a (h | h) hfr
  ·exact H.af h3 a h ((hf a).1 hfr)
  ·subst h;exact absurd ((hf a).1 hfr) nfd
 ·intro hp;have M:=H.mp hp;have back:∀a,(x.pub dst size).L a→a < (x.pub dst size).tm a→x.L a∧a < x.tm a:=by
   rintro a (h | h) ht
   ·rw[tm a (by have:=(g.at_ a (H.lb a h)).1;omega)] at ht;exact⟨h,ht⟩
   ·subst h;rw[tm a ω] at ht;omega
  refine⟨λa h=>.inl (M.sk a h),λa h=>.inl (M.old a h),λY h2 h3 a ha ht=>?_,λa h=>⟨.inl (M.l0 a h).1,by rw[tm a (by have:=(g.at_ a (H.lb a (M.l0 a h).1)).1;omega)];exact (M.l0 a h).2.1,lg a (M.l0 a h).2.2⟩,λa j ha ht j0 j1 hq=>?_,λa j ha ht j0 j1=>(M.un a j (back a ha ht).1 (back a ha ht).2 j0 j1).imp id (lg _),λr r0 r1=>?_⟩
  ·exact M.mn Y h2 (λa j ha ht hy j0 j1 hq=>h3 a j (.inl ha) (by rw[tm a (by have:=(g.at_ a (H.lb a ha)).1;omega)];exact ht) hy j0 j1 hq) a (back a ha ht).1 (back a ha ht).2
  ·obtain⟨q1,q2⟩:=M.ql a j (back a ha ht).1 (back a ha ht).2 j0 j1 hq;have q0:16≤x.q (a + 2 + j):=(g.at_ _ (H.lb _ q1)).1;exact⟨.inl q1,by rw[show (x.pub dst size).tm ((x.pub dst size).q (a + 2 + j)) = x.tm (x.q (a + 2 + j)) from tm (x.q (a + 2 + j)) ω];exact q2⟩
  ·rw[el r ω];exact M.cov r r0 (by rw[← len];exact r1)
 ·refine⟨rfl,len,rfl,λ_ h=>.inl h,λ_ h=>.inl h,?_,λr r0=>by rw[ek r r0],et,λr r0 hk ho=>⟨⟨by rw[ek r r0];exact hk,eo r r0,?_⟩,λ_ _ _=>rfl⟩,λ_ _=>rfl,λ_ _ _ _ _ _=>rfl,λ_ _ _=>rfl,λ_=>lg,rfl,?_⟩
  ·rintro a (h | h) hfr
   ·exact h
   ·subst h;exact absurd ((hf a).1 hfr) nfd
  ·rw[ep r r0,if_neg];intro c;subst c;exact ho O.o
  ·rintro hp a j (h | h) hn j0 j1 hfr
   ·exact⟨h,rfl⟩
   ·subst h;exact absurd ((hf _).1 hfr) (hc hp j j0 j1)
theorem N7 {x:X} (H:Sh x) {r z:Int} (r0:0≤r) (hk:(rv x.t r).kind = 2) (h1:(rv x.t r).top≤z) (h2:z < 16 * r + 16):16≤z∧z / 16 = r∧∀a k,x.B a→0≤k→k < sz x.w a→a + k≠z:=by
 obtain⟨c1,c2⟩:=RP H r0 (by rw[hk];decide);have t0:=(H.g.ok.row r c1 c2).t0;refine⟨ω,ω,λa k ha k0 k1 h=>?_⟩;obtain⟨g1,g2,g3,g4,g5,g6,g7,g8⟩:=H.g.inn ha;have:a / 16 = r:=ω
 rw[this] at g4;omega
theorem fwd {x:X} {o src dst:Int} (H:Sh x) (hs:x.L src) (hf:Aw x.t src) (hw:wv x.w src = src) (hd:x.L dst) (hn:¬ Aw x.t dst) (he:wv x.w (dst + 1) = wv x.w (src + 1)) (h3:x.ph≠3):Sh { x with w:=AM x.w src dst }∧Kp o x { x with w:=AM x.w src dst }:=by
 obtain⟨g1,g2,g3,g4,g5,g6,g7,g8⟩:=H.g.inn (H.lb _ hs);have e:∀u,0≤u→wv (AM x.w src dst) u = if u = src then dst else wv x.w u:=λu hu=>Co ω ω hu
 have hk:∀a k,x.B a→1≤k→k < sz x.w a→wv (AM x.w src dst) (a + k) = wv x.w (a + k):=λa k h k0 k1=>by
  have:=(H.g.at_ a h).1;rw[e _ ω,if_neg];intro c;have:=sep H.g h (H.lb _ hs) (k:=k) (l:=0) ω k1 ω ω ω;omega
 have hz:∀a,x.B a→wv (AM x.w src dst) (a + 1) = wv x.w (a + 1):=λa h=>hk a 1 h ω (by have:=H.g.inn h;omega)
 have hr:∀a j,x.L a→0≤j→j < (shp x.w a).refs→wv (AM x.w src dst) (a + 2 + j) = wv x.w (a + 2 + j):=λa j h j0 j1=>by
  have:=hk a (2 + j) (H.lb a h) ω (by have:=Dp x.w a;omega);rwa [← Int.add_assoc] at this
 have hh:∀a,x.B a→a≠src→wv (AM x.w src dst) a = wv x.w a:=λa h c=>by
  have:=(H.g.at_ a h).1;rw[e _ ω,if_neg c]
 refine⟨H.wr σ hz (λa h hn'=>?_) (λa h hfr hne=>?_) (λa j h j0 j1=>by rw[hr a j h j0 j1];exact H.rf a j h j0 j1) (λh1 a j h ht j0 j1=>by rw[hr a j h j0 j1];exact (H.mp h1).un a j h ht j0 j1) (λhp=>absurd hp h3),?_⟩
 ·by_cases c:a = src
  ·subst c;exact absurd hf hn'
  ·rw[hh a h c];exact H.st a h hn'
 ·by_cases c:a = src
  ·subst c;rw[e _ ω,if_pos rfl];exact⟨hd,hn,he⟩
  ·rw[hh a h c] at hne ⊢;exact H.fw a h hfr hne
 ·refine⟨σ,rfl,rfl,λ_ h=>h,λ_ h=>h,λ_ h _=>h,λ_ _=>Iff.rfl,λ_ _=>rfl,λr r0 hk2 ho=>⟨⟨hk2,rfl,rfl⟩,λu hu hu2=>?_⟩,hz,λa u h _ u0 u1=>?_,λa h hne=>?_,λ_ _ h=>h,rfl,λhp=>absurd hp h3⟩
  ·obtain⟨c1,_,c3⟩:=N7 H r0 hk2 hu hu2;show wv (AM x.w src dst) u = wv x.w u;rw[e u ω,if_neg];intro c;exact c3 src 0 (H.lb _ hs) ω ω ω
  ·have:=hk a (u - a) (H.lb a h) ω ω;rwa [show a + (u - a) = u from ω] at this
  ·refine hh a h λc=>?_
   subst c;exact hne hw
theorem Pn {x:X} {a k v:Int} (H:Sh x) (ha:x.L a) (k0:2≤k) (k1:k < sz x.w a) :
  (∀b,x.B b→wv (AM x.w (a + k) v) b = wv x.w b)∧(∀b,x.B b→wv (AM x.w (a + k) v) (b + 1) = wv x.w (b + 1))∧
  (∀b l,x.B b→0≤l→l < sz x.w b→wv (AM x.w (a + k) v) (b + l) = if b = a∧l = k then v else wv x.w (b + l))∧
  (∀r u:Int,0≤r→(rv x.t r).kind = 2→(rv x.t r).top≤u→u < 16 * r + 16→wv (AM x.w (a + k) v) u = wv x.w u):=by
 obtain⟨g1,g2,g3,g4,g5,g6,g7,g8⟩:=H.g.inn (H.lb _ ha);have e:∀u,0≤u→wv (AM x.w (a + k) v) u = if u = a + k then v else wv x.w u:=λu hu=>Co ω ω hu
 have hk:∀b l,x.B b→0≤l→l < sz x.w b→wv (AM x.w (a + k) v) (b + l) = if b = a∧l = k then v else wv x.w (b + l):=λb l hb l0 l1=>by
  have:=(H.g.at_ b hb).1;rw[e _ ω];by_cases c:b + l = a + k
  ·obtain⟨c1,c2⟩:=sep H.g hb (H.lb _ ha) l0 l1 ω k1 c;rw[if_pos c,if_pos ⟨c1,c2⟩]
  ·rw[if_neg c,if_neg (by rintro⟨rfl,rfl⟩;exact c rfl)]
 refine⟨λb hb=>?_,λb hb=>?_,hk,λr u r0 hk2 hu hu2=>?_⟩
 ·have:=hk b 0 hb ω (by have:=H.g.inn hb;omega);rw[if_neg ω,Int.add_zero] at this;exact this
 ·have:=hk b 1 hb ω (by have:=H.g.inn hb;omega);rw[if_neg ω] at this;exact this
 ·obtain⟨c1,_,c3⟩:=N7 H r0 hk2 hu hu2;rw[e u ω,if_neg];intro c;exact c3 a k (H.lb _ ha) ω ω c.symm
theorem num {x:X} {o a k v:Int} (H:Sh x) (ha:x.L a) (hn:¬ Aw x.t a) (k0:2 + (shp x.w a).refs≤k) (k1:k < sz x.w a):Sh { x with w:=AM x.w (a + k) v }∧Kp o x { x with w:=AM x.w (a + k) v }:=by
 have s:=Dp x.w a;obtain⟨hh,hz,hk,ho⟩:=Pn (v:=v) H ha ω k1;have hr:∀b j,x.L b→0≤j→j < (shp x.w b).refs→wv (AM x.w (a + k) v) (b + 2 + j) = wv x.w (b + 2 + j):=λb j h j0 j1=>by
  have:=hk b (2 + j) (H.lb b h) ω (by have:=Dp x.w b;omega);rw[← Int.add_assoc] at this;rw[this,if_neg];rintro⟨rfl,c⟩;omega
 refine⟨H.wr σ hz (λb h hf=>by rw[hh b h];exact H.st b h hf) (λb h hf hne=>by rw[hh b h] at hne ⊢;exact H.fw b h hf hne) (λb j h j0 j1=>by rw[hr b j h j0 j1];exact H.rf b j h j0 j1) (λh1 b j h ht j0 j1=>by rw[hr b j h j0 j1];exact (H.mp h1).un b j h ht j0 j1) (λhp b h hf=>by rw[hh b (H.lb b h)];exact H.af hp b h hf),?_⟩;refine⟨σ,rfl,rfl,λ_ h=>h,λ_ h=>h,λ_ h _=>h,λ_ _=>Iff.rfl,λ_ _=>rfl,λr r0 hk2 _=>⟨⟨hk2,rfl,rfl⟩,λu hu hu2=>ho r u r0 hk2 hu hu2⟩,hz,λb u h hf u0 u1=>?_,λb h _=>hh b h,λ_ _ h=>h,rfl,λ_ b j h hf j0 j1 _=>⟨h,?_⟩⟩
 ·have:=hk b (u - b) (H.lb b h) ω ω;rw[show b + (u - b) = u from ω,if_neg] at this
  ·exact this
  ·rintro⟨rfl,_⟩;exact hn hf
 ·have j1:j < (shp (AM x.w (a + k) v) b).refs:=j1;rw[DD (hz b (H.lb b h))] at j1;exact (hr b j h j0 j1).symm
theorem ref {x:X} {o a j v:Int} (H:Sh x) (ha:x.L a) (hn:¬ Aw x.t a) (j0:0≤j) (j1:j < (shp x.w a).refs) (hv:v≠0→x.L v) (h1:x.ph = 1→a < x.tm a→Lg x (x.q (a + 2 + j))) (h3:x.ph = 3→¬ Aw x.t v) :
  Sh { x with w:=AM x.w (a + 2 + j) v }∧Kp o x { x with w:=AM x.w (a + 2 + j) v }:=by
 have s:=Dp x.w a;rw[Int.add_assoc];obtain⟨hh,hz,hk,ho⟩:=Pn (k:=2 + j) (v:=v) H ha ω ω;have hr:∀b i,x.L b→0≤i→i < (shp x.w b).refs→wv (AM x.w (a + (2 + j)) v) (b + 2 + i) = if b = a∧i = j then v else wv x.w (b + 2 + i):=λb i h i0 i1=>by
  have:=hk b (2 + i) (H.lb b h) ω (by have:=Dp x.w b;omega);rw[show b + (2 + i) = b + 2 + i from ω] at this;rw[this];by_cases c:b = a∧i = j
  ·rw[if_pos c,if_pos ⟨c.1,ω⟩]
  ·rw[if_neg c,if_neg (λc'=>c ⟨c'.1,ω⟩)]
 refine⟨H.wr σ hz (λb h hf=>by rw[hh b h];exact H.st b h hf) (λb h hf hne=>by rw[hh b h] at hne ⊢;exact H.fw b h hf hne) (λb i h i0 i1=>?_) (λhp b i h ht i0 i1=>?_) (λhp b h hf=>by rw[hh b (H.lb b h)];exact H.af hp b h hf),?_⟩
 ·rw[hr b i h i0 i1];split
  ·exact hv
  ·exact H.rf b i h i0 i1
 ·rw[hr b i h i0 i1];split
  ·rename_i c;obtain⟨rfl,rfl⟩:=c;exact .inr (h1 hp ht)
  ·exact (H.mp hp).un b i h ht i0 i1
 ·refine⟨σ,rfl,rfl,λ_ h=>h,λ_ h=>h,λ_ h _=>h,λ_ _=>Iff.rfl,λ_ _=>rfl,λr r0 hk2 _=>⟨⟨hk2,rfl,rfl⟩,λu hu hu2=>ho r u r0 hk2 hu hu2⟩,hz,λb u h hf u0 u1=>?_,λb h _=>hh b h,λ_ _ h=>h,rfl,λhp b i h hf i0 i1 hfr=>⟨h,?_⟩⟩
  ·have:=hk b (u - b) (H.lb b h) ω ω;rw[show b + (u - b) = u from ω,if_neg] at this
   ·exact this
   ·rintro⟨rfl,_⟩;exact hn hf
  ·have i1:i < (shp (AM x.w (a + (2 + j)) v) b).refs:=i1;rw[DD (hz b (H.lb b h))] at i1;have e:=hr b i h i0 i1;show wv x.w (b + 2 + i) = wv (AM x.w (a + (2 + j)) v) (b + 2 + i);have hfr:Aw x.t (wv (AM x.w (a + (2 + j)) v) (b + 2 + i)):=hfr;rw[e] at hfr ⊢;split
   ·rename_i c;rw[if_pos c] at hfr;exact absurd hfr (h3 hp)
   ·rfl
theorem TZ {x:X} {o:Int} {l:List Int} (H:Sh x) (hl:∀v∈l,x.L v) (hi:∀v∈x.old,v∈l):Sh { x with old:=l }∧Kp o x { x with old:=l }:=by
 have lg:∀v,Lg x v→Lg { x with old:=l } v:=λv h=>by
  rcases h with h | h | h | h | h
  ·exact .inl h
  ·exact .inr (.inl h)
  ·exact .inr (.inr (.inl h))
  ·exact .inr (.inr (.inr (.inl (hi v h))))
  ·exact .inr (.inr (.inr (.inr h)))
 refine⟨⟨H.g,H.lb,H.rf,H.st,H.fw,H.ml,H.mt,H.ph,H.nf,H.lm,H.pl,H.fm,H.nb,H.af,λhp=>?_⟩,?_⟩
 ·have M:=H.mp hp;exact⟨M.sk,hl,M.mn,λa h=>⟨(M.l0 a h).1,(M.l0 a h).2.1,lg _ (M.l0 a h).2.2⟩,M.ql,λa j h ht j0 j1=>(M.un a j h ht j0 j1).imp id (lg _),M.cov⟩
 ·exact⟨rfl,rfl,rfl,λ_ h=>h,λ_ h=>h,λ_ h _=>h,λ_ _=>Iff.rfl,λ_ _=>rfl,λ_ _ h _=>⟨⟨h,rfl,rfl⟩,λ_ _ _=>rfl⟩,λ_ _=>rfl,λ_ _ _ _ _ _=>rfl,λ_ _ _=>rfl,λ_=>lg,rfl,λ_ _ _ h _ _ _ _=>⟨h,rfl⟩⟩
theorem Te {x:X} {o:Int} {l:List Int} (H:Sh x) (hl:∀v∈l,x.L v∧¬ Aw x.t v):Sh { x with AI:=l }∧Kp o x { x with AI:=l }:=by
 refine⟨⟨H.g,H.lb,H.rf,H.st,H.fw,H.ml,H.mt,H.ph,H.nf,H.lm,hl,H.fm,H.nb,H.af,λhp=>?_⟩,?_⟩
 ·have M:=H.mp hp;exact⟨M.sk,M.old,M.mn,M.l0,M.ql,M.un,M.cov⟩
 ·exact⟨rfl,rfl,rfl,λ_ h=>h,λ_ h=>h,λ_ h _=>h,λ_ _=>Iff.rfl,λ_ _=>rfl,λ_ _ h _=>⟨⟨h,rfl,rfl⟩,λ_ _ _=>rfl⟩,λ_ _=>rfl,λ_ _ _ _ _ _=>rfl,λ_ _ _=>rfl,λ_ _ h=>h,rfl,λ_ _ _ h _ _ _ _=>⟨h,rfl⟩⟩
end Sm
end
section
namespace Sm
variable {P:List (List Op)}
structure Bs (x:X) (o:Op) (t:Thr) (pc:Int):Prop where
 p:1≤pc∧pc≤16∧pc≠13
 k:2≤o.kind∧o.kind≤11∧o.kind≠8∧o.kind≠9
 h:t.h≠0→x.L t.h
 g:t.g≠0→x.L t.g
 kk:t.k≠0→x.L t.k
 h0:o.kind≠6→t.h≠0
 nh:2≤pc→¬ Aw x.t t.h
 ng:3≤pc→¬ Aw x.t t.g
 nk:4≤pc→¬ Aw x.t t.k
 s:5≤pc→t.sh = shp x.w t.h∧t.h≠0
 f:5≤pc→0≤o.f∧(o.kind = 4∨o.kind = 5→o.f < t.sh.nums)∧(o.kind≠4→o.kind≠5→o.f < t.sh.refs)
 k5:pc = 5∨pc = 11∨pc = 12→o.kind = 2
 k6:pc = 6∨pc = 7→o.kind = 3
 k8:pc = 8→o.kind = 4
 k9:pc = 9→o.kind = 5
 k10:pc = 10∨pc = 14∨pc = 15∨pc = 16→o.kind = 7
 l7:pc = 7→x.ph = 1→t.h < x.tm t.h→Lg x (x.q (t.h + 2 + o.f))
 l14:pc = 14→x.ph = 1→Lg x t.u
 v:11≤pc→pc≠14→t.v≠0→x.L t.v
 nv:pc = 12∨pc = 16→¬ Aw x.t t.v
 p15:pc = 15∨pc = 16→x.ph≠1
structure Cp (x:X) (o src dst size i word pc:Int):Prop where
 p:20≤pc∧pc≤24
 ls:x.L src
 fs:Aw x.t src
 p2:x.ph = 2
 sz:21≤pc→size = sz x.w src
 ow:21≤pc→Ow x o dst size
 i0:21≤pc→1≤i∧i≤size
 i1:pc = 21∨pc = 22→i < size
 cp:21≤pc→∀j,1≤j→j < i→wv x.w (dst + j) = wv x.w (src + j)
 wd:pc = 22→word = wv x.w (src + i)
 dn:23≤pc→i = size
 hd:pc = 24→wv x.w dst = dst
structure Mg (x:X) (o:Int) (op:Op) (t:Thr):Prop where
 p:30≤t.pc∧t.pc≤33
 k:op.kind = 1
 sh:Ao op.sh = true
 sz:31≤t.pc→t.size = AC op.sh
 ow:31≤t.pc→Ow x o t.dst t.size
 i2:31≤t.pc→t.pc≤32→t.i = 2
 i3:t.pc = 33→2≤t.i∧t.i < t.size
 hd:32≤t.pc→wv x.w t.dst = t.dst
 sp:33≤t.pc→wv x.w (t.dst + 1) = Ab op.sh
 z:33≤t.pc→∀j,2≤j→j < t.i→wv x.w (t.dst + j) = 0
def FC (r:Int):Prop:=r = 1∨r = 2∨r = 3∨r = 11∨r = 15
inductive Run (x:X) (i:Int) (o:Op) (t:Thr):Prop
 | bs (h:Bs x o t t.pc)
 | cp (h:Bs x o t t.ret) (r:FC t.ret) (e:BJ t t.ret = t.src) (c:Cp x i t.src t.dst t.size t.i t.word t.pc)
 | mg (h:Mg x i o t)
structure TI (x:X) (i:Int) (po:Option Op) (t:Thr):Prop where
 rt:∀a∈t.AA,a≠0→x.L a
 rl:t.AA.length≤8
 nx:0≤t.next
 r8:∀o,po = some o→t.pc≠0→o.kind = 1∨o.kind = 2→t.AA.length < 8
 run:(t.pc = 0∧t.g = 0∧t.k = 0)∨∃o,po = some o∧Run x i o t
theorem Kp.shp {o:Int} {x y:X} (K:Kp o x y) {a:Int} (h:x.B a):shp y.w a = shp x.w a:=DD (K.sh a h)
theorem Kp.sz {o:Int} {x y:X} (K:Kp o x y) {a:Int} (h:x.B a):sz y.w a = sz x.w a:=Ew (K.sh a h)
theorem Kp.tma {o:Int} {x y:X} (K:Kp o x y) {a:Int} (h:0≤a):y.tm a = x.tm a:=K.tm (a / 16) ω
theorem Bs.stable {p:Int} {x y:X} {o:Op} {t:Thr} {pc:Int} (H:Sh x) (K:Kp p x y) (b:Bs x o t pc):Bs y o t pc:=by
 refine⟨b.p,b.k,λh=>K.l _ (b.h h),λh=>K.l _ (b.g h),λh=>K.l _ (b.kk h),b.h0,λh c=>b.nh h (K.frm.1 c),λh c=>b.ng h (K.frm.1 c),λh c=>b.nk h (K.frm.1 c),λh=>?_,b.f,b.k5,b.k6,b.k8,b.k9,b.k10,λh hp ht=>?_,λh hp=>?_,λh h' h0=>K.l _ (b.v h h' h0),λh c=>b.nv h (K.frm.1 c),λh=>by rw[K.ph];exact b.p15 h⟩
 ·obtain⟨h1,h2⟩:=b.s h;exact⟨by rw[K.shp (H.lb _ (b.h h2))];exact h1,h2⟩
 ·have hp' : x.ph = 1:=by rw[← K.ph];exact hp
  have h2:=(b.s ω).2;have hL:=b.h h2;rw[K.tma (by have:=H.g.inn (H.lb _ hL);omega)] at ht;rw[K.q];exact K.lg hp' _ (b.l7 h hp' ht)
 ·have hp' : x.ph = 1:=by rw[← K.ph];exact hp
  exact K.lg hp' _ (b.l14 h hp')
theorem Cp.stable {p o:Int} {x y:X} {src dst size i word pc:Int} (H:Sh x) (K:Kp p x y) (hp:p≠o) (c:Cp x o src dst size i word pc):Cp y o src dst size i word pc:=by
 refine⟨c.p,K.l _ c.ls,K.frm.2 c.fs,by rw[K.ph];exact c.p2,λh=>by rw[K.sz (H.lb _ c.ls)];exact c.sz h,λh=>((c.ow h).stable K hp).1,c.i0,c.i1,λh j j0 j1=>?_,λh=>?_,c.dn,λh=>?_⟩
 ·have h1:=c.i0 h;rw[((c.ow h).stable K hp).2 (dst + j) ω ω,K.bd src (src + j) c.ls c.fs ω (by have:=c.sz h;omega)];exact c.cp h j j0 j1
 ·have h1:=c.i0 ω;have h2:=c.i1 (.inr h);rw[K.bd src (src + i) c.ls c.fs ω (by have:=c.sz ω;omega)];exact c.wd h
 ·have h1:=c.i0 ω;rw[((c.ow ω).stable K hp).2 dst ω ω];exact c.hd h
theorem Mg.stable {p o:Int} {x y:X} {op:Op} {t:Thr} (K:Kp p x y) (hp:p≠o) (c:Mg x o op t):Mg y o op t:=by
 have h2:31≤t.pc→2≤t.size:=λh=>by
  rw[c.sz h];have:=c.sh;rw[If (by simpa [Ao,and_assoc] using this)];simp only[Ao,z_b,z_d] at this;omega
 refine⟨c.p,c.k,c.sh,c.sz,λh=>((c.ow h).stable K hp).1,c.i2,c.i3,λh=>?_,λh=>?_,λh j j0 j1=>?_⟩
 ·rw[((c.ow ω).stable K hp).2 t.dst ω (by have:=h2 ω;omega)];exact c.hd h
 ·rw[((c.ow ω).stable K hp).2 (t.dst + 1) ω (by have:=h2 ω;omega)];exact c.sp h
 ·have:=c.i3 (by have:=c.p;omega);rw[((c.ow ω).stable K hp).2 (t.dst + j) ω ω];exact c.z h j j0 j1
theorem TI.stable {p i:Int} {x y:X} {po:Option Op} {t:Thr} (H:Sh x) (K:Kp p x y) (hp:p≠i) (T:TI x i po t):TI y i po t:=by
 refine⟨λa h h0=>K.l a (T.rt a h h0),T.rl,T.nx,T.r8,?_⟩;rcases T.run with h | ⟨o,h,r⟩
 ·exact .inl h
 ·refine .inr ⟨o,h,?_⟩;cases r with
  | bs b=>exact .bs (b.stable H K)
  | cp b r e c=>exact .cp (b.stable H K) r e (c.stable H K hp)
  | mg m=>exact .mg (m.stable K hp)
structure C1 (x:X) (c:Col):Prop where
 pc:c.pc = 1∨c.pc = 2
 p2:c.pc = 2→mv x.m c.p = true∧0≤c.p∧c.sh = shp x.w c.p∧0≤c.i∧c.i < c.sh.refs
 sc:∀a j,0≤a→mv x.m a = true→0≤j→j < (shp x.w a).refs→(c.pc = 2∧a = c.p∧c.i≤j)∨Lg x (x.q (a + 2 + j))
structure C2 (x:X) (n:Int) (c:Col):Prop where
 r0:1≤c.r
 r1:c.r≤x.t.length
 p0:16 * c.r≤c.p
 p1:c.p≤16 * c.r + 16
 wk:∀a,x.L a→Aw x.t a→a < c.p→wv x.w a≠a∨(c.pc≠5∧a = c.src)
 pc:c.pc = 5∨Cp x n c.src c.dst c.size c.i c.word c.pc
def lim (x:X) (r:Int):Int:=16 * r + (rv x.t r).AH
structure C3 (x:X) (c:Col):Prop where
 pc:6≤c.pc∧c.pc≤9
 r0:1≤c.r
 r1:c.r≤x.t.length
 p0:16 * c.r≤c.p
 at_:c.r < x.t.length→c.p < lim x c.r→x.B c.p
 f:7≤c.pc→x.L c.f∧¬ Aw x.t c.f∧c.sh = shp x.w c.f∧0≤c.i∧c.i < c.sh.refs∧c.f < c.p
 v:8≤c.pc→x.L c.v∧Aw x.t c.v
 w:c.pc = 9→c.word = wv x.w c.v
 u:8≤c.pc→Aw x.t (wv x.w (c.f + 2 + c.i))→wv x.w (c.f + 2 + c.i) = c.v
 cl:∀a j,x.L a→¬ Aw x.t a→0≤j→j < (shp x.w a).refs→Aw x.t (wv x.w (a + 2 + j))→(c.p≤a∧a < lim x (a / 16))∨(7≤c.pc∧a = c.f∧c.i≤j)
def Wt (x:X) (want:Int):Prop:=(x.ph = 0∧want = 1)∨(x.ph = 1∧want = 2)∨(x.ph = 2∧want = 3∧∀a,x.L a→Aw x.t a→wv x.w a≠a)∨
 (x.ph = 3∧want = 0∧∀a j,x.L a→¬ Aw x.t a→0≤j→j < (shp x.w a).refs→¬ Aw x.t (wv x.w (a + 2 + j)))
theorem C1.stable {p:Int} {x y:X} {c:Col} (H:Sh x) (K:Kp p x y) (hm:y.m = x.m) (h1:x.ph = 1) (C:C1 x c):C1 y c:=by
 have hb:∀a,0≤a→mv x.m a = true→shp y.w a = shp x.w a:=λa a0 h=>K.shp (H.lb _ (H.mt a a0 h).1)
 refine⟨C.pc,λh=>?_,λa j a0 h j0 j1=>?_⟩
 ·obtain⟨h2,h3,h4,h5⟩:=C.p2 h;exact⟨by rw[hm];exact h2,h3,by rw[hb _ h3 h2];exact h4,h5⟩
 ·rw[hm] at h;rw[hb a a0 h] at j1;rcases C.sc a j a0 h j0 j1 with d | d
  ·exact .inl d
  ·rw[K.q];exact .inr (K.lg h1 _ d)
theorem C2.stable {p n:Int} {x y:X} {c:Col} (H:Sh x) (K:Kp p x y) (hp:p≠n) (C:C2 x n c):C2 y n c:=by
 refine⟨C.r0,by rw[K.tl];exact C.r1,C.p0,C.p1,λa h hf hl=>?_,C.pc.imp id λd=>d.stable H K hp⟩;have hL:=K.lf a h hf;rcases C.wk a hL (K.frm.1 hf) hl with d | d
 ·left;rw[K.fwd a (H.lb _ hL) d];exact d
 ·exact .inr d
theorem C3.stable {p:Int} {x y:X} {c:Col} (H:Sh x) (K:Kp p x y) (hl:∀r:Int,0≤r→(rv y.t r).AH = (rv x.t r).AH) (h3:x.ph = 3) (C:C3 x c):C3 y c:=by
 have el:∀r,0≤r→lim y r = lim x r:=λr r0=>by unfold lim;rw[hl r r0]
 refine⟨C.pc,C.r0,by rw[K.tl];exact C.r1,C.p0,λh h'=>K.b _ (C.at_ (by rw[← K.tl];exact h) (by rw[el _ (by have:=C.r0;omega)] at h';exact h')),λh=>?_,λh=>?_,λh=>?_,λh hf=>?_,λa j h hn j0 j1 hf=>?_⟩
 ·obtain⟨f1,f2,f3,f4⟩:=C.f h;exact⟨K.l _ f1,λc=>f2 (K.frm.1 c),by rw[K.shp (H.lb _ f1)];exact f3,f4⟩
 ·exact⟨K.l _ (C.v h).1,K.frm.2 (C.v h).2⟩
 ·obtain⟨v1,v2⟩:=C.v ω;rw[K.fwd _ (H.lb _ v1) (H.af h3 _ v1 v2)];exact C.w h
 ·obtain⟨f1,f2,f3,f4,f5,_⟩:=C.f ω;obtain⟨_,g2⟩:=K.cl h3 c.f c.i (K.l _ f1) (λc=>f2 (K.frm.1 c)) f4 (by rw[K.shp (H.lb _ f1),← f3];exact f5) hf;rw[← g2] at hf ⊢;exact C.u h (K.frm.1 hf)
 ·obtain⟨g1,g2⟩:=K.cl h3 a j h hn j0 j1 hf;rw[K.shp (H.lb _ g1)] at j1;rw[← g2] at hf;rw[el _ (by have:=H.g.inn (H.lb _ g1);omega)];exact C.cl a j g1 (λc=>hn (K.frm.2 c)) j0 j1 (K.frm.1 hf)
theorem Wt.stable {p want:Int} {x y:X} (H:Sh x) (K:Kp p x y) (W:Wt x want):Wt y want:=by
 rcases W with ⟨h,h'⟩ | ⟨h,h'⟩ | ⟨h,h',h2⟩ | ⟨h,h',h2⟩
 ·exact .inl ⟨by rw[K.ph];exact h,h'⟩
 ·exact .inr (.inl ⟨by rw[K.ph];exact h,h'⟩)
 ·refine .inr (.inr (.inl ⟨by rw[K.ph];exact h,h',λa ha hf=>?_⟩));have hL:=K.lf a ha hf;have:=h2 a hL (K.frm.1 hf);rw[K.fwd a (H.lb _ hL) this];exact this
 ·refine .inr (.inr (.inr ⟨by rw[K.ph];exact h,h',λa j ha hn j0 j1 hf=>?_⟩));obtain⟨g1,g2⟩:=K.cl h a j ha hn j0 j1 hf;rw[K.shp (H.lb _ g1)] at j1;rw[← g2] at hf;exact h2 a j g1 (λc=>hn (K.frm.2 c)) j0 j1 (K.frm.1 hf)
structure Gh where
 B:Int→Prop
 L:Int→Prop
 q:Int→Int
 r0:Int→Prop
@[reducible] def xof (S:Sim) (g:Gh):X:=⟨S.A5,S.A0,S.AJ,S.AW,S.col.AD,S.old,S.AI,g.B,g.L,g.q,g.r0⟩
structure Bd (c:Nat) (S:Sim):Prop where
 ev:S.ev.length≤c
 old:S.old.length≤c
 cy:0≤S.B8∧S.B8≤c
 fu:0≤S.Be∧S.Be≤c
 st:S.col.AD.length + S.old.length + 5 * S.AJ.countP (λb=>!b) + (if S.col.pc = 2 then (S.col.sh.refs - S.col.i).toNat else 0)≤3000 + c
 pn:S.AI.length≤8
structure IG (P:List (List Op)) (S:Sim) (g:Gh):Prop where
 pg:S.AE = P
 sh:Sh (xof S g)
 n0:1≤S.th.length
 n1:S.th.length≤3
 pl:S.AE.length = S.th.length
 pp:∀p∈S.AE,p.length≤40
 ti:∀i t,idx S.th i = some t→TI (xof S g) i (S.opOf i t) t
 c1:S.AW = 1→C1 (xof S g) S.col
 c2:S.AW = 2→C2 (xof S g) S.th.length S.col
 c3:S.AW = 3→C3 (xof S g) S.col
 wt:S.stop = true→S.full = false→Wt (xof S g) S.col.want
 rs:0≤S.c.AF∧S.c.AF≤100
theorem RA {α:Type} {l:List α} {i j:Int} {v u:α} (h:idx (AM l i v) j = some u) (hi:0≤i):(j = i∧u = v)∨(j≠i∧idx l j = some u):=by
 unfold idx AM at h;split at h
 ·rw[List.getElem?_set] at h;split at h
  ·split at h
   ·left;exact⟨ω,by simpa using h.symm⟩
   ·cases h
  ·right;refine⟨λc=>by subst c;simp at *,?_⟩;unfold idx;rw[if_pos (by assumption)];exact h
 ·cases h
theorem IG.step {S S' : Sim} {g g' : Gh} {i:Int} {t t' : Thr} (I:IG P S g) (ht:idx S.th i = some t) (hth:S'.th = AM S.th i t') (hsh:Sh (xof S' g')) (K:Kp i (xof S g) (xof S' g')) (hc:S'.col = S.col) (hm:S'.AJ = S.AJ)
  (hlv:∀r:Int,0≤r→(rv S'.A0 r).AH = (rv S.A0 r).AH) (hpc:(S'.AE,S'.c) = (S.AE,S.c)) (hT:TI (xof S' g') i (S'.opOf i t') t') (hst:S'.stop = true→S'.full = false→S.stop = true∧S.full = false):IG P S' g':=by
 have hpg:S'.AE = S.AE:=congrArg Prod.fst hpc;have hcc:S'.c = S.c:=congrArg Prod.snd hpc;obtain⟨i0,i1,_⟩:=GL t ht;have hph:S'.AW = S.AW:=K.ph;have hin:i≠S.th.length:=ω
 refine⟨by rw[hpg];exact I.pg,hsh,by rw[hth,CP];exact I.n0,by rw[hth,CP];exact I.n1,by rw[hth,CP,hpg];exact I.pl,by rw[hpg];exact I.pp,λj u hu=>?_,λh=>?_,λh=>?_,λh=>?_,λh h'=>?_,by rw[hcc];exact I.rs⟩
 ·rw[hth] at hu;rcases RA hu i0 with ⟨rfl,rfl⟩ | ⟨hne,hu⟩
  ·exact hT
  ·have:S'.opOf j u = S.opOf j u:=by unfold Sim.opOf;rw[hpg]
   rw[this];exact (I.ti j u hu).stable I.sh K hne.symm
 ·rw[hc];rw[hph] at h;exact (I.c1 h).stable I.sh K hm h
 ·rw[hc,hth,CP];rw[hph] at h;exact (I.c2 h).stable I.sh K hin
 ·rw[hc];rw[hph] at h;exact (I.c3 h).stable I.sh K hlv h
 ·rw[hc];obtain⟨h1,h2⟩:=hst h h';exact (I.wt h1 h2).stable I.sh K
end Sm
end
section
namespace Sm
variable {P:List (List Op)}
theorem GM {α:Type} {l:List α} {i:Int} {a b:α}:AM (AM l i a) i b = AM l i b:=by simp[AM]
theorem E8 {α:Type} {l:List α} {i:Int} {a u:α} (h:idx l i = some u):idx (AM l i a) i = some a:=by
 obtain⟨h0,h1,_⟩:=GL u h;unfold idx AM;rw[if_pos h0,List.getElem?_set_self ω]
theorem PW {c:Nat} {S:Sim} (B:Bd c S) (hc:c < 900000) (h:∀t∈S.th,t.AA.length < 1000000):S.sz = true:=by
 have h1:=B.ev;have h2:=B.old;have h3:=B.st;have h4:=B.pn;simp only[Sim.sz,z_b,z_d,UB];exact⟨⟨⟨⟨ω,ω⟩,ω⟩,ω⟩,h⟩
theorem Je {α:Type} {l:List α} {t:α} (h:t∈l):∃i:Int,0≤i∧i < l.length∧idx l i = some t:=by
 obtain⟨n,hn,rfl⟩:=UE h;refine⟨n,ω,ω,?_⟩;unfold idx;rw[if_pos ω];simp[hn]
theorem IG.AA {S:Sim} {g:Gh} (I:IG P S g):∀t∈S.th,t.AA.length≤8:=λt h=>by
 obtain⟨i,_,_,hi⟩:=Je h;exact (I.ti i t hi).rl
theorem IG.szok {c:Nat} {S S1:Sim} {g:Gh} (I:IG P S g) (hth:S1.th = S.th) (B:Bd c S1) (hc:c < 900000):S1.sz = true:=
 PW B hc λt h=>by have:=I.AA t (hth▸h);omega
theorem IG.next {S:Sim} {g:Gh} {i:Int} {t:Thr} {o:Op} (I:IG P S g) (ht:idx S.th i = some t) (ho:S.opOf i t = some o):0≤t.next∧t.next < 40:=by
 refine⟨(I.ti i t ht).nx,?_⟩;unfold Sim.opOf at ho;split at ho
 ·rename_i p hp;obtain⟨_,h1,_⟩:=GL default ho;have:p∈S.AE:=by
   unfold idx at hp;split at hp
   ·exact List.mem_of_getElem? hp
   ·cases hp
  have:=I.pp p this;omega
 ·cases ho
structure Ap (S S1:Sim):Prop where
 th:S1.th = S.th
 col:S1.col = S.col
 AJ:S1.AJ = S.AJ
 pc_:(S1.AE,S1.c) = (S.AE,S.c)
 stop:S1.stop = S.stop
 full:S1.full = S.full
 AH:∀r:Int,0≤r→(rv S1.A0 r).AH = (rv S.A0 r).AH
theorem Ap.AE {S S1:Sim} (E:Ap S S1):S1.AE = S.AE:=congrArg Prod.fst E.pc_
theorem Ap.refl (S:Sim):Ap S S:=⟨rfl,rfl,rfl,rfl,rfl,rfl,λ_ _=>rfl⟩
theorem Bd.mono {c d:Nat} {S:Sim} (B:Bd c S) (h:c≤d):Bd d S:=
 ⟨by have:=B.ev;omega,by have:=B.old;omega,⟨B.cy.1,by have:=B.cy.2;omega⟩,⟨B.fu.1,by have:=B.fu.2;omega⟩,by have:=B.st;omega,B.pn⟩
theorem CB {c:Nat} {S S1:Sim} {g g' : Gh} {i:Int} {t t' : Thr} (I:IG P S g) (B:Bd c S1) (ht:idx S.th i = some t) (hsh:Sh (xof S1 g')) (K:Kp i (xof S g) (xof S1 g')) (E:Ap S S1) (hT:TI (xof S1 g') i (S.opOf i t') t') :
  IG P (S1.setT i t') g'∧Bd c (S1.setT i t')∧idx (S1.setT i t').th i = some t':=by
 refine⟨I.step ht (t':=t') (by show AM S1.th i t' = _;rw[E.th]) hsh K E.col E.AJ E.AH E.pc_ ?_ λh h'=>?_,⟨B.ev,B.old,B.cy,B.fu,B.st,B.pn⟩,?_⟩
 ·have:(S1.setT i t').opOf i t' = S.opOf i t':=by unfold Sim.opOf Sim.setT;simp only[show S1.AE = S.AE from congrArg Prod.fst E.pc_]
  rw[this];exact hT
 ·rw[← E.stop,← E.full];exact⟨h,h'⟩
 ·show idx (AM S1.th i t') i = _;rw[E.th];exact E8 ht
def Sim.evd (S:Sim) (i ans code:Int) (t:Thr) (AA:List Int):Sim:={ S with ev:=S.ev ++ [⟨i,t.next,ans,code⟩],th:=AM S.th i (thr0 AA (t.next + 1) 0) }
theorem DW {S:Sim} {i ans code:Int} {t:Thr} (hz:S.sz = true) (ht:idx S.th i = some t) (hn:0≤t.next∧t.next < 40):S.event i ans code = some (S.evd i ans code t t.AA):=by
 unfold Sim.event;rw[hz,ht];simp only[Bool.not_true,U1,if_false,CC];rw[if_pos ω];rfl
theorem Mu {S:Sim} {i a:Int} {t:Thr} (hz:S.sz = true) (hl:t.AA.length < 1000) (ht:idx S.th i = some t) (hn:0≤t.next∧t.next < 40):S.push i a = some (S.evd i 0 0 t (t.AA ++ [a])):=by
 unfold Sim.push;rw[hz,ht];simp only[Bool.not_true,U1,if_false];rw[DW (t:={ t with AA:=t.AA ++ [a] }) ?_ (E8 ht) hn]
 ·unfold Sim.evd Sim.setT;simp only[GM]
 ·unfold Sim.sz at hz ⊢;rw[z_b,UB] at hz ⊢;refine⟨hz.1,λu hu=>?_⟩;rcases Uc hu with h | h
  ·exact hz.2 u h
  ·subst h;exact decide_eq_true (by simp;omega)
theorem EO {c:Nat} {S S1:Sim} {g g' : Gh} {i ans code:Int} {t:Thr} {o:Op} (I:IG P S g) (B:Bd c S1) (ht:idx S.th i = some t) (ho:S.opOf i t = some o) (hsh:Sh (xof S1 g')) (K:Kp i (xof S g) (xof S1 g')) (E:Ap S S1) (AA:List Int) (hr:∀a∈AA,a≠0→g'.L a) (hl:AA.length≤8) :
  IG P (S1.evd i ans code t AA) g'∧Bd (c + 1) (S1.evd i ans code t AA)∧idx (S1.evd i ans code t AA).th i = some (thr0 AA (t.next + 1) 0):=by
 have hn:=I.next ht ho;refine⟨I.step ht (t':=thr0 AA (t.next + 1) 0) (by show AM S1.th i _ = _;rw[E.th]) hsh K E.col E.AJ E.AH E.pc_ ?_ λh h'=>?_,?_,?_⟩
 ·exact⟨hr,hl,by show 0≤t.next + 1;omega,λ_ _ h=>absurd rfl h,.inl ⟨rfl,rfl,rfl⟩⟩
 ·rw[← E.stop,← E.full];exact⟨h,h'⟩
 ·have B':=B.mono (UJ c);exact⟨by have:=B.ev;show (S1.ev ++ [_]).length≤c + 1;simp;omega,B'.old,B'.cy,B'.fu,B'.st,B'.pn⟩
 ·show idx (AM S1.th i _) i = _;rw[E.th];exact E8 ht
theorem LE {c:Nat} {S S1:Sim} {g:Gh} {i:Int} {t:Thr} (I:IG P S g) (B:Bd c S1) (ht:idx S.th i = some t) (hsh:Sh (xof S1 g)) (K:Kp i (xof S g) (xof S1 g)) (E:Ap S S1) :
  ∃S',S1.back i = some S'∧IG P S' g∧Bd c S'∧idx S'.th i = some (thr0 t.AA t.next 1):=by
 have T:=I.ti i t ht;unfold Sim.back;rw[E.th,ht];refine⟨_,rfl,I.step ht (t':=thr0 t.AA t.next 1) (by show AM S1.th i _ = _;rw[E.th]) hsh K E.col E.AJ E.AH E.pc_ ?_ λh h'=>?_,⟨B.ev,B.old,B.cy,B.fu,B.st,B.pn⟩,?_⟩
 ·exact⟨λa h h0=>K.l a (T.rt a h h0),T.rl,T.nx,λ_ _ h=>absurd rfl h,.inl ⟨rfl,rfl,rfl⟩⟩
 ·cases h'
 ·show idx (AM S1.th i _) i = _;rw[E.th];exact E8 ht
theorem TI.upd {x y:X} {i:Int} {po:Option Op} {t t' : Thr} {o:Op} (T:TI x i po t) (K:Kp i x y) (hr:t'.AA = t.AA) (hn:t'.next = t.next) (hpc:t.pc≠0) (ho:po = some o) (R:Run y i o t'):TI y i po t':=
 ⟨λa h h0=>K.l a (T.rt a (hr▸h) h0),by rw[hr];exact T.rl,by rw[hn];exact T.nx,λo' h _ hk=>by rw[hr];exact T.r8 o' h hpc hk,.inr ⟨o,ho,R⟩⟩
theorem Bs.eqv {x:X} {o:Op} {t t' : Thr} {pc:Int} (b:Bs x o t pc) (h:t'.h = t.h) (g:t'.g = t.g) (k:t'.k = t.k) (u:t'.u = t.u) (v:t'.v = t.v) (s:t'.sh = t.sh):Bs x o t' pc:=by
 refine⟨b.p,b.k,?_,?_,?_,?_,?_,?_,?_,?_,?_,b.k5,b.k6,b.k8,b.k9,b.k10,?_,?_,?_,?_,b.p15⟩
 ·rw[h];exact b.h
 ·rw[g];exact b.g
 ·rw[k];exact b.kk
 ·rw[h];exact b.h0
 ·rw[h];exact b.nh
 ·rw[g];exact b.ng
 ·rw[k];exact b.nk
 ·rw[h,s];exact b.s
 ·rw[s];exact b.f
 ·rw[h];exact b.l7
 ·rw[u];exact b.l14
 ·rw[v];exact b.v
 ·rw[v];exact b.nv
theorem FC.le {r:Int} (h:FC r):1≤r∧r≤15:=by rcases h with rfl | rfl | rfl | rfl | rfl<;>decide
theorem Bs.held {x:X} {o:Op} {t:Thr} {pc:Int} (b:Bs x o t pc) (r:FC pc) (h0:BJ t pc≠0):x.L (BJ t pc):=by
 rcases r with rfl | rfl | rfl | rfl | rfl
 ·exact b.h h0
 ·exact b.g h0
 ·exact b.kk h0
 ·exact b.v δ δ h0
 ·exact b.v δ δ h0
theorem Bs.go {x:X} {o:Op} {t:Thr} {pc:Int} (b:Bs x o t pc) (r:FC pc) (hn:¬ Aw x.t (BJ t pc)):Bs x o t (DI pc):=by
 rcases r with rfl | rfl | rfl | rfl | rfl
 ·exact⟨δ,b.k,b.h,b.g,b.kk,b.h0,λ_=>hn,λh=>absurd h δ,λh=>absurd h δ,λh=>absurd h δ,λh=>absurd h δ,λh=>absurd h δ,λh=>absurd h δ,λh=>absurd h δ,λh=>absurd h δ,λh=>absurd h δ,λh=>absurd h δ,λh=>absurd h δ,λh=>absurd h δ,λh=>absurd h δ,λh=>absurd h δ⟩
 ·exact⟨δ,b.k,b.h,b.g,b.kk,b.h0,λ_=>b.nh δ,λ_=>hn,λh=>absurd h δ,λh=>absurd h δ,λh=>absurd h δ,λh=>absurd h δ,λh=>absurd h δ,λh=>absurd h δ,λh=>absurd h δ,λh=>absurd h δ,λh=>absurd h δ,λh=>absurd h δ,λh=>absurd h δ,λh=>absurd h δ,λh=>absurd h δ⟩
 ·exact⟨δ,b.k,b.h,b.g,b.kk,b.h0,λ_=>b.nh δ,λ_=>b.ng δ,λ_=>hn,λh=>absurd h δ,λh=>absurd h δ,λh=>absurd h δ,λh=>absurd h δ,λh=>absurd h δ,λh=>absurd h δ,λh=>absurd h δ,λh=>absurd h δ,λh=>absurd h δ,λh=>absurd h δ,λh=>absurd h δ,λh=>absurd h δ⟩
 ·exact⟨δ,b.k,b.h,b.g,b.kk,b.h0,λ_=>b.nh δ,λ_=>b.ng δ,λ_=>b.nk δ,λ_=>b.s δ,λ_=>b.f δ,λ_=>b.k5 δ,λh=>absurd h δ,λh=>absurd h δ,λh=>absurd h δ,λh=>absurd h δ,λh=>absurd h δ,λh=>absurd h δ,λ_ _=>b.v δ δ,λ_=>hn,λh=>absurd h δ⟩
 ·exact⟨δ,b.k,b.h,b.g,b.kk,b.h0,λ_=>b.nh δ,λ_=>b.ng δ,λ_=>b.nk δ,λ_=>b.s δ,λ_=>b.f δ,λh=>absurd h δ,λh=>absurd h δ,λh=>absurd h δ,λh=>absurd h δ,λ_=>b.k10 δ,λh=>absurd h δ,λh=>absurd h δ,λ_ _=>b.v δ δ,λ_=>hn,λ_=>b.p15 δ⟩
theorem Bs.hold {x:X} {o:Op} {t:Thr} {pc f:Int} (b:Bs x o t pc) (r:FC pc) (hL:x.L f) (h0:f≠0) (hn:¬ Aw x.t f):Bs x o (BQ t pc f) (DI pc):=by
 rcases r with rfl | rfl | rfl | rfl | rfl
 ·have b1:Bs x o { t with h:=f } 1:=⟨b.p,b.k,λ_=>hL,b.g,b.kk,λ_=>h0,λh=>absurd h δ,λh=>absurd h δ,λh=>absurd h δ,λh=>absurd h δ,λh=>absurd h δ,b.k5,b.k6,b.k8,b.k9,b.k10,λh=>absurd h δ,b.l14,b.v,b.nv,b.p15⟩;exact (b1.go (.inl rfl) hn).eqv rfl rfl rfl rfl rfl rfl
 ·have b1:Bs x o { t with g:=f } 2:=⟨b.p,b.k,b.h,λ_=>hL,b.kk,b.h0,b.nh,λh=>absurd h δ,λh=>absurd h δ,λh=>absurd h δ,λh=>absurd h δ,b.k5,b.k6,b.k8,b.k9,b.k10,λh=>absurd h δ,b.l14,b.v,b.nv,b.p15⟩;exact (b1.go (.inr (.inl rfl)) hn).eqv rfl rfl rfl rfl rfl rfl
 ·have b1:Bs x o { t with k:=f } 3:=⟨b.p,b.k,b.h,b.g,λ_=>hL,b.h0,b.nh,b.ng,λh=>absurd h δ,λh=>absurd h δ,λh=>absurd h δ,b.k5,b.k6,b.k8,b.k9,b.k10,λh=>absurd h δ,b.l14,b.v,b.nv,b.p15⟩;exact (b1.go (.inr (.inr (.inl rfl))) hn).eqv rfl rfl rfl rfl rfl rfl
 ·have b1:Bs x o { t with v:=f } 11:=⟨b.p,b.k,b.h,b.g,b.kk,b.h0,b.nh,b.ng,b.nk,b.s,b.f,b.k5,b.k6,b.k8,b.k9,b.k10,λh=>absurd h δ,b.l14,λ_ _ _=>hL,λh=>absurd h δ,b.p15⟩;exact (b1.go (.inr (.inr (.inr (.inl rfl)))) hn).eqv rfl rfl rfl rfl rfl rfl
 ·have b1:Bs x o { t with v:=f } 15:=⟨b.p,b.k,b.h,b.g,b.kk,b.h0,b.nh,b.ng,b.nk,b.s,b.f,b.k5,b.k6,b.k8,b.k9,b.k10,λh=>absurd h δ,b.l14,λ_ _ _=>hL,λh=>absurd h δ,b.p15⟩;exact (b1.go (.inr (.inr (.inr (.inr rfl)))) hn).eqv rfl rfl rfl rfl rfl rfl
theorem GR (t:Thr) (pc f:Int):(BQ t pc f).AA = t.AA∧(BQ t pc f).next = t.next∧(BQ t pc f).pc = DI pc:=by
 unfold BQ;refine⟨?_,?_,rfl⟩<;>(simp only[];split<;>(try split)<;>(try split)<;>rfl)
theorem Cp.start {x:X} {o src dst size i word:Int} (h1:x.L src) (h2:Aw x.t src) (h3:x.ph = 2):Cp x o src dst size i word 20:=
 ⟨δ,h1,h2,h3,λh=>absurd h δ,λh=>absurd h δ,λh=>absurd h δ,λh=>absurd h δ,λh=>absurd h δ,λh=>absurd h δ,λh=>absurd h δ,λh=>absurd h δ⟩
def rk (pc:Int):Nat:=if pc = 1 then 4 else if pc = 2 then 3 else if pc = 3 then 2 else if pc = 4 then 1 else if pc = 11 then 1 else if pc = 15 then 2 else if pc = 16 then 1 else if pc = 30 then 1 else 0
def Rm (i pc:Int) (S' : Sim):Prop:=S'.used = true∨∃t',idx S'.th i = some t'∧(t'.pc = 0∨rk t'.pc < rk pc)
def Out (P:List (List Op)) (c:Nat) (i pc:Int) (r:Option Sim):Prop:=∃S' g',r = some S'∧IG P S' g'∧Bd (c + 1) S'∧Rm i pc S'
theorem CH {a:Int} (h:0≤a):AQ a = a / 16:=by unfold AQ;rw[if_neg ω]
theorem IG.in_ {S:Sim} {g:Gh} (I:IG P S g) {a:Int} (h:g.L a):16≤a∧1≤a / 16∧a / 16 < S.A0.length∧a + sz S.A5 a≤S.A5.length∧2≤sz S.A5 a∧sz S.A5 a≤10:=by
 obtain⟨g1,g2,g3,g4,g5,g6,g7,g8⟩:=I.sh.g.inn (I.sh.lb a h);exact⟨g1,g2,g3,g6,g7,g8⟩
theorem IG.frm {S:Sim} {g:Gh} (I:IG P S g) {a:Int} (h:a≠0→g.L a):∃b,S.from_ a = some b∧(b = true↔Aw S.A0 a):=by
 unfold Sim.from_;by_cases c:a = 0
 ·subst c;refine⟨false,σ,?_⟩;have:=I.sh.g.ok.e;unfold Aw;have e:rv S.A0 0 = DY:=this;rw[show (0:Int) / 16 = 0 from rfl,e];simp[DY]
 ·obtain⟨h1,h2,h3,_⟩:=I.in_ (h c);rw[if_neg c,CH ω,CJ ω h3];refine⟨_,rfl,?_⟩;unfold Aw;simp only[beq_iff_eq];exact⟨λh=>⟨ω,h⟩,λh=>h.2⟩
theorem Bl {S:Sim} {a:Int} (h0:0≤a) (h1:a < S.A5.length):S.read a = some (wv S.A5 a,{ S with used:=true }):=by
 unfold Sim.read;rw[Ob h0 h1]
theorem CM {S:Sim} {a v:Int} (h0:0≤a) (h1:a < S.A5.length):S.write a v = some { S with used:=true,A5:=AM S.A5 a v }:=by
 unfold Sim.write;rw[if_pos ⟨h0,h1⟩]
theorem Av {a b:Int} (h:-1000000≤a + b) (h' : a + b≤1000000):CC a b = some (a + b):=by
 unfold CC;rw[if_pos ω]
theorem IG.wl {S:Sim} {g:Gh} (I:IG P S g):S.A5.length≤192:=by
 have h1:=I.sh.g.len;have h2:=I.sh.g.ok.n1;simp only at h1 h2;omega
theorem Qb {pc:Int} (r:FC pc):rk (DI pc) < rk pc:=by rcases r with rfl | rfl | rfl | rfl | rfl<;>decide
theorem Lr {c:Nat} {S:Sim} {g:Gh} {i:Int} {t:Thr} {o:Op} (I:IG P S g) (B:Bd c S) (ht:idx S.th i = some t) (ho:S.opOf i t = some o) (b:Bs (xof S g) o t t.pc) (r:FC t.pc):Out P c i t.pc (S.resolve i):=by
 have T:=I.ti i t ht;have hpc:t.pc≠0:=by have:=r.le;omega
 unfold Sim.resolve;rw[ht];simp only[Tm,z_o];rw[if_neg (by have:=r.le;omega)];obtain⟨d,hd,hdf⟩:=I.frm (a:=BJ t t.pc) (λh=>b.held r h);rw[hd];simp only[z_o];cases d with
 | false=>
  have hn:¬ Aw S.A0 (BJ t t.pc):=λh=>by have:=hdf.2 h;cases this
  rw[if_pos τ];obtain⟨I',B',ht'⟩:=CB (t':={ t with pc:=DI t.pc }) I B ht I.sh (Kp.refl i _) (Ap.refl S) (T.upd (Kp.refl i _) rfl rfl hpc ho (.bs ((b.go r hn).eqv rfl rfl rfl rfl rfl rfl)));exact⟨_,g,rfl,I',B'.mono (UJ c),.inr ⟨_,ht',.inr (Qb r)⟩⟩
 | true=>
  have hf:Aw S.A0 (BJ t t.pc):=hdf.1 rfl;have h0:BJ t t.pc≠0:=λh=>by
   rw[h] at hf;have:=hf.2;have e:rv S.A0 0 = DY:=I.sh.g.ok.e;rw[show (0:Int) / 16 = 0 from rfl,e] at this;cases this
  have hL:=b.held r h0;obtain⟨a1,a2,a3,a4,a5,_⟩:=I.in_ hL;rw[if_neg σ,Bl ω ω];simp only[z_o];split
  ·rename_i hc;obtain⟨I',B',ht'⟩:=CB (S1:={ S with used:=true }) (t':={ t with src:=BJ t t.pc,ret:=t.pc,pc:=20 }) I (c:=c) ⟨B.ev,B.old,B.cy,B.fu,B.st,B.pn⟩ ht I.sh (Kp.refl i _) ⟨rfl,rfl,rfl,rfl,rfl,rfl,λ_ _=>rfl⟩
    (T.upd (Kp.refl i _) rfl rfl hpc ho (.cp (b.eqv rfl rfl rfl rfl rfl rfl) r τ (Cp.start hL hf hc.2)))
   exact⟨_,g,rfl,I',B'.mono (UJ c),.inl rfl⟩
  ·rename_i hc;have hne:wv S.A5 (BJ t t.pc)≠BJ t t.pc:=λhe=>by
    have h2:S.AW≠2:=λh=>hc ⟨he,h⟩
    have hp:=I.sh.ph;simp only at hp;by_cases h3:S.AW = 3
    ·exact I.sh.af h3 _ hL hf he
    ·exact I.sh.nf (by show S.AW≤1;omega) _ ω hf.2
   obtain⟨f1,f2,_⟩:g.L (wv S.A5 (BJ t t.pc))∧¬ Aw S.A0 (wv S.A5 (BJ t t.pc))∧_:=I.sh.fw _ (I.sh.lb _ hL) hf hne;have hs:=GR t t.pc (wv S.A5 (BJ t t.pc));obtain⟨I',B',ht'⟩:=CB (S1:={ S with used:=true }) (t':=BQ t t.pc (wv S.A5 (BJ t t.pc))) I (c:=c) ⟨B.ev,B.old,B.cy,B.fu,B.st,B.pn⟩ ht I.sh (Kp.refl i _) ⟨rfl,rfl,rfl,rfl,rfl,rfl,λ_ _=>rfl⟩
    (by
     have:S.opOf i (BQ t t.pc (wv S.A5 (BJ t t.pc))) = S.opOf i t:=by unfold Sim.opOf;rw[hs.2.1]
     rw[this]
     exact T.upd (Kp.refl i _) hs.1 hs.2.1 hpc ho (.bs (by rw[hs.2.2];exact b.hold r f1 (by have:=I.in_ f1;omega) f2)))
   exact⟨_,g,rfl,I',B'.mono (UJ c),.inl rfl⟩
end Sm
end
section
namespace Sm
variable {P:List (List Op)}
theorem Ss {x:X} {o src d word:Int} {t' : List Rg} (H:Sh x) (hL:x.L src) (hf:Aw x.t src) (h2:x.ph = 2) (P:N3 x.t o (sz x.w src) t' d) :
  Sh { x with t:=t' }∧Kp o x { x with t:=t' }∧Cp { x with t:=t' } o src d (sz x.w src) 1 word 21:=by
 obtain⟨h1,K,O⟩:=room H P;have g:=H.g.inn (H.lb _ hL);refine⟨h1,K,⟨δ,hL,K.frm.2 hf,h2,λ_=>rfl,λ_=>O,λ_=>ω,λ_=>ω,λ_ j j0 j1=>ω,λh=>absurd h δ,λh=>absurd h δ,λh=>absurd h δ⟩⟩
theorem TE {x:X} {o src d size i word:Int} (c:Cp x o src d size i word 21):Cp x o src d size i (wv x.w (src + i)) 22:=
 ⟨δ,c.ls,c.fs,c.p2,λ_=>c.sz δ,λ_=>c.ow δ,λ_=>c.i0 δ,λ_=>c.i1 δ,λ_=>c.cp δ,λ_=>rfl,λh=>absurd h δ,λh=>absurd h δ⟩
theorem T4 {x:X} {o src d size i word:Int} (H:Sh x) (c:Cp x o src d size i word 22):Sh { x with w:=AM x.w (d + i) word }∧Kp o x { x with w:=AM x.w (d + i) word }∧Cp { x with w:=AM x.w (d + i) word } o src d size (i + 1) word (if i + 1 = size then 23 else 21):=by
 have O:=c.ow δ;have h1:=c.i0 δ;have h2:=c.i1 (.inr rfl);obtain⟨h3,K⟩:=Pj (z:=d + i) (v:=word) H O ω ω;have g:=H.g.inn (H.lb _ c.ls);have hs:=c.sz δ;have wl:=O.wl H.g;have d0:=O.d0;have e:∀u,0≤u→wv (AM x.w (d + i) word) u = if u = d + i then word else wv x.w u:=λu hu=>Co ω ω hu
 have es:∀j,0≤j→j < sz x.w src→wv (AM x.w (d + i) word) (src + j) = wv x.w (src + j):=λj j0 j1=>by
  rw[e _ ω,if_neg (O.sep H.g ω ω (H.lb _ c.ls) j0 j1)]
 refine⟨h3,K,?_⟩;have hp:∀q:Int,(q = 21∨q = 23)→(q = 23→i + 1 = size)→(q = 21→i + 1≠size)→Cp { x with w:=AM x.w (d + i) word } o src d size (i + 1) word q:=λq hq h5 h6=>by
  refine⟨ω,c.ls,c.fs,c.p2,λ_=>?_,λ_=>⟨O.d0,O.k,O.o,O.top,O.fit⟩,λ_=>ω,λh=>ω,λ_ j j0 j1=>?_,λh=>ω,λh=>ω,λh=>ω⟩
  ·show size = sz (AM x.w (d + i) word) src;rw[Ew (es 1 ω ω)];exact hs
  ·show wv (AM x.w (d + i) word) (d + j) = wv (AM x.w (d + i) word) (src + j);rw[es j ω ω,e _ ω];by_cases h:j = i
   ·subst h;rw[if_pos rfl];exact c.wd rfl
   ·rw[if_neg ω];exact c.cp δ j j0 ω
 split
 ·exact hp 23 (.inr rfl) (λ_=>by assumption) (λh=>absurd h δ)
 ·exact hp 21 (.inl rfl) (λh=>absurd h δ) (λ_=>by assumption)
theorem Sx {x:X} {o src d size i word:Int} (H:Sh x) (c:Cp x o src d size i word 23):Sh { x with w:=AM x.w d d }∧Kp o x { x with w:=AM x.w d d }∧Cp { x with w:=AM x.w d d } o src d size i word 24:=by
 have O:=c.ow δ;have h1:=c.i0 δ;have h2:=c.dn δ;obtain⟨h3,K⟩:=Pj (z:=d) (v:=d) H O ω ω;have g:=H.g.inn (H.lb _ c.ls);have hs:=c.sz δ;have wl:=O.wl H.g;have d0:=O.d0;have e:∀u,0≤u→wv (AM x.w d d) u = if u = d then d else wv x.w u:=λu hu=>Co ω ω hu
 have es:∀j,0≤j→j < sz x.w src→wv (AM x.w d d) (src + j) = wv x.w (src + j):=λj j0 j1=>by
  rw[e _ ω,if_neg (O.sep H.g ω ω (H.lb _ c.ls) j0 j1)]
 refine⟨h3,K,⟨δ,c.ls,c.fs,c.p2,λ_=>?_,λ_=>⟨O.d0,O.k,O.o,O.top,O.fit⟩,λ_=>h1,λh=>absurd h δ,λ_ j j0 j1=>?_,λh=>absurd h δ,λ_=>h2,λ_=>?_⟩⟩
 ·show size = sz (AM x.w d d) src;rw[Ew (es 1 ω ω)];exact hs
 ·show wv (AM x.w d d) (d + j) = wv (AM x.w d d) (src + j);rw[es j ω ω,e _ ω,if_neg ω];exact c.cp δ j j0 j1
 ·show wv (AM x.w d d) d = d;rw[e _ ω,if_pos rfl]
theorem TA {x:X} {o src d size i word:Int} (H:Sh x) (c:Cp x o src d size i word 24) (hw:wv x.w src = src) :
  Sh { x.pub d size with w:=AM x.w src d }∧Kp o x { x.pub d size with w:=AM x.w src d }∧¬ Aw (x.pub d size).t d∧16≤d∧d≠src:=by
 have O:=c.ow δ;have h1:=c.i0 δ;have h2:=c.dn δ;have g:=H.g.inn (H.lb _ c.ls);have hs:=c.sz δ;have d0:=O.d0;have sb:=Dp x.w src;have e1:wv x.w (d + 1) = wv x.w (src + 1):=c.cp δ 1 δ ω;have ez:sz x.w d = size:=by
  unfold sz;rw[DD (a:=d) (w:=x.w) (w':=x.w) rfl];have:shp x.w d = shp x.w src:=by unfold shp;rw[e1]
  rw[this];exact hs.symm
 have es:shp x.w d = shp x.w src:=by unfold shp;rw[e1]
 have nd:d≠src:=by
  intro h;have:=O.sep H.g (z:=d) ω ω (H.lb _ c.ls) (k:=0) ω ω;omega
 obtain⟨P,K⟩:=pub H O ez (by rw[e1];exact (H.g.at_ _ (H.lb _ c.ls)).2.2) (c.hd rfl) (λj j0 j1=>by
  rw[es] at j1
  rw[show d + 2 + j = d + (2 + j) from ω,c.cp δ (2 + j) ω ω,show src + (2 + j) = src + 2 + j from ω]
  exact H.rf src j c.ls j0 j1) (λh=>absurd h (by rw[c.p2];decide))
 have nf:¬ Aw (x.pub d size).t d:=λh=>by
  have:=(K.frm.1 h).2;rw[O.k] at this;cases this
 obtain⟨P2,K2⟩:=fwd (o:=o) (x:=x.pub d size) P (K.l _ c.ls) (K.frm.2 c.fs) hw (.inr rfl) nf e1 (by rw[K.ph,c.p2];decide);exact⟨P2,K.trans K2 H P,nf,d0,nd⟩
theorem Mm {c:Nat} {S:Sim} {g:Gh} {i:Int} {t:Thr} {o:Op} (I:IG P S g) (B:Bd c S) (ht:idx S.th i = some t) (ho:S.opOf i t = some o) (b:Bs (xof S g) o t t.ret) (r:FC t.ret) (e:BJ t t.ret = t.src) (cp:Cp (xof S g) i t.src t.dst t.size t.i t.word t.pc):Out P c i t.pc (S.copying i):=by
 have T:=I.ti i t ht;have p:=cp.p;have hpc:t.pc≠0:=ω
 have hwl:=I.wl;obtain⟨a1,a2,a3,a4,a5,a6⟩:=I.in_ cp.ls;obtain⟨i0,i1,_⟩:=GL t ht;have hn1:=I.n1;have B1:Bd c { S with used:=true }:=⟨B.ev,B.old,B.cy,B.fu,B.st,B.pn⟩;unfold Sim.copying;rw[ht];simp only[Tm,z_o];by_cases c20:t.pc = 20
 ·rw[if_pos c20,Av ω ω];simp only[z_o];rw[Bl ω ω];simp only[z_o];have es:AC (AN (wv S.A5 (t.src + 1))).1 = sz S.A5 t.src:=rfl;rw[es];rcases E0 (o:=i) (size:=sz S.A5 t.src) I.sh.g.ok ω ω ω ω with h | ⟨t',d,h,P⟩
  ·have h' : As S.A0 i (sz S.A5 t.src) = none:=h;simp only[h'];obtain⟨S',h1,I',B',ht'⟩:=LE (S1:={ S with used:=true }) I B1 ht I.sh (Kp.refl i _) ⟨rfl,rfl,rfl,rfl,rfl,rfl,λ_ _=>rfl⟩;exact⟨S',g,h1,I',B'.mono (UJ c),.inr ⟨_,ht',.inl rfl⟩⟩
  ·have h' : As S.A0 i (sz S.A5 t.src) = some (t',d):=h;simp only[h'];obtain⟨h1,K,C⟩:=Ss (word:=t.word) I.sh cp.ls cp.fs cp.p2 P;obtain⟨I',B',ht'⟩:=CB (S1:={ S with used:=true,A0:=t' }) (g':=g) (t':={ t with size:=sz S.A5 t.src,dst:=d,i:=1,pc:=21 }) I (c:=c) ⟨B.ev,B.old,B.cy,B.fu,B.st,B.pn⟩ ht h1 K ⟨rfl,rfl,rfl,rfl,rfl,rfl,P.AH⟩
    (T.upd K rfl rfl hpc ho (.cp ((b.stable I.sh K).eqv rfl rfl rfl rfl rfl rfl) r (by show BJ _ t.ret = t.src;rw[← e];rfl) C))
   exact⟨_,g,rfl,I',B'.mono (UJ c),.inl rfl⟩
 rw[if_neg c20];have j0:=cp.i0 ω;have hs:=cp.sz ω;have O:=cp.ow ω;have ow:=O.wl I.sh.g;have d0:=O.d0;simp only at hs ow;by_cases c21:t.pc = 21
 ·rw[if_pos c21];have j1:=cp.i1 (.inl c21);rw[Av ω ω];simp only[z_o];rw[Bl ω ω];simp only[z_o];rw[c21] at cp;obtain⟨I',B',ht'⟩:=CB (S1:={ S with used:=true }) (t':={ t with word:=wv S.A5 (t.src + t.i),pc:=22 }) I B1 ht I.sh (Kp.refl i _) ⟨rfl,rfl,rfl,rfl,rfl,rfl,λ_ _=>rfl⟩
   (T.upd (Kp.refl i _) rfl rfl hpc ho (.cp (b.eqv rfl rfl rfl rfl rfl rfl) r (by show BJ _ t.ret = t.src;rw[← e];rfl) (TE cp)))
  exact⟨_,g,rfl,I',B'.mono (UJ c),.inl rfl⟩
 rw[if_neg c21];by_cases c22:t.pc = 22
 ·rw[if_pos c22];have j1:=cp.i1 (.inr c22);rw[Av ω ω];simp only[z_o];rw[CM ω ω];simp only[z_o];rw[Av ω ω];simp only[z_o];rw[c22] at cp;obtain⟨h1,K,C⟩:=T4 I.sh cp;obtain⟨I',B',ht'⟩:=CB (S1:={ S with used:=true,A5:=AM S.A5 (t.dst + t.i) t.word }) (g':=g) (t':={ t with i:=t.i + 1,pc:=if t.i + 1 = t.size then 23 else 21 }) I (c:=c) ⟨B.ev,B.old,B.cy,B.fu,B.st,B.pn⟩ ht h1 K ⟨rfl,rfl,rfl,rfl,rfl,rfl,λ_ _=>rfl⟩
   (T.upd K rfl rfl hpc ho (.cp ((b.stable I.sh K).eqv rfl rfl rfl rfl rfl rfl) r (by show BJ _ t.ret = t.src;rw[← e];rfl) C))
  exact⟨_,g,rfl,I',B'.mono (UJ c),.inl rfl⟩
 rw[if_neg c22];by_cases c23:t.pc = 23
 ·rw[if_pos c23];rw[CM ω ω];simp only[z_o];rw[c23] at cp;obtain⟨h1,K,C⟩:=Sx I.sh cp;obtain⟨I',B',ht'⟩:=CB (S1:={ S with used:=true,A5:=AM S.A5 t.dst t.dst }) (g':=g) (t':={ t with pc:=24 }) I (c:=c) ⟨B.ev,B.old,B.cy,B.fu,B.st,B.pn⟩ ht h1 K ⟨rfl,rfl,rfl,rfl,rfl,rfl,λ_ _=>rfl⟩
   (T.upd K rfl rfl hpc ho (.cp ((b.stable I.sh K).eqv rfl rfl rfl rfl rfl rfl) r (by show BJ _ t.ret = t.src;rw[← e];rfl) C))
  exact⟨_,g,rfl,I',B'.mono (UJ c),.inl rfl⟩
 rw[if_neg c23,if_pos ω,if_neg (by have:=r.le;omega)];have c24:t.pc = 24:=ω
 rw[c24] at cp;rw[Bl ω ω];simp only[z_o];by_cases hw:wv S.A5 t.src = t.src
 ·rw[if_pos hw,CM (by show (0:Int)≤_;omega) (by show _ < (S.A5.length:Int);omega)];simp only[z_o];obtain⟨h1,K,nf,_,_⟩:=TA I.sh cp hw;have htop:Sim.top { S with used:=true,A5:=AM S.A5 t.src t.dst } t.dst t.size = some { S with used:=true,A5:=AM S.A5 t.src t.dst,A0:=AM S.A0 (t.dst / 16) { rv S.A0 (t.dst / 16) with top:=t.dst + t.size } }:=by
   unfold Sim.top;rw[CH ω];show (match idx S.A0 (t.dst / 16) with | some x=>_ | none=>_) = _;rw[CJ ω O.inn];simp only[];rw[Av ω ω]
  simp only[htop,z_o];have hs2:=GR t t.ret t.dst;obtain⟨I',B',ht'⟩:=CB (S1:={ S with used:=true,A5:=AM S.A5 t.src t.dst,A0:=AM S.A0 (t.dst / 16) { rv S.A0 (t.dst / 16) with top:=t.dst + t.size } }) (g':={ g with B:=λa=>g.B a∨a = t.dst,L:=λa=>g.L a∨a = t.dst }) (t':=BQ t t.ret t.dst) I (c:=c) ⟨B.ev,B.old,B.cy,B.fu,B.st,B.pn⟩ ht h1 K ⟨rfl,rfl,rfl,rfl,rfl,rfl,λq q0=>by
    show (rv (AM S.A0 (t.dst / 16) _) q).AH = _
    rw[Cv ω O.inn q0];split
    ·subst q;rfl
    ·rfl⟩
   (by
    have:S.opOf i (BQ t t.ret t.dst) = S.opOf i t:=by unfold Sim.opOf;rw[hs2.2.1]
    rw[this]
    exact T.upd K hs2.1 hs2.2.1 hpc ho (.bs (by rw[hs2.2.2];exact (b.stable I.sh K).hold r (.inr rfl) ω nf)))
  exact⟨_,_,rfl,I',B'.mono (UJ c),.inl rfl⟩
 ·rw[if_neg hw];obtain⟨f1,f2,_⟩:g.L (wv S.A5 t.src)∧¬ Aw S.A0 (wv S.A5 t.src)∧_:=I.sh.fw _ (I.sh.lb _ cp.ls) cp.fs hw;have hs2:=GR t t.ret (wv S.A5 t.src);obtain⟨I',B',ht'⟩:=CB (S1:={ S with used:=true }) (t':=BQ t t.ret (wv S.A5 t.src)) I B1 ht I.sh (Kp.refl i _) ⟨rfl,rfl,rfl,rfl,rfl,rfl,λ_ _=>rfl⟩
   (by
    have:S.opOf i (BQ t t.ret (wv S.A5 t.src)) = S.opOf i t:=by unfold Sim.opOf;rw[hs2.2.1]
    rw[this]
    exact T.upd (Kp.refl i _) hs2.1 hs2.2.1 hpc ho (.bs (by rw[hs2.2.2];exact b.hold r f1 (by have:=I.in_ f1;omega) f2)))
  exact⟨_,g,rfl,I',B'.mono (UJ c),.inl rfl⟩
end Sm
end
section
namespace Sm
variable {P:List (List Op)}
theorem EJ {s:Shp} (h:Ao s = true):AN (Ab s) = (s,true):=by
 have hb:=h;simp only[Ao,z_b,z_d] at hb;unfold Ab AN;rw[if_pos h];have e1:(16 * s.refs + s.nums) / 16 = s.refs:=ω
 have e2:(16 * s.refs + s.nums) % 16 = s.nums:=ω
 rw[if_pos ω,e1,e2]
theorem SD {x:X} {o dst size:Int} {s:Shp} (H:Sh x) (O:Ow x o dst size) (ok:Ao s = true) (hs:size = AC s) (hd:wv x.w dst = dst) (sp:wv x.w (dst + 1) = Ab s) (hz:∀j,2≤j→j < size→wv x.w (dst + j) = 0) :
  Sh (x.pub dst size)∧Kp o x (x.pub dst size):=by
 have e:shp x.w dst = s:=by unfold shp;rw[sp,EJ ok]
 have sb:=Dp x.w dst;have ez:sz x.w dst = size:=by unfold sz;rw[e,hs]
 have z:∀j,0≤j→j < (shp x.w dst).refs→wv x.w (dst + 2 + j) = 0:=λj j0 j1=>by
  have:=hz (2 + j) ω ω;rwa [← Int.add_assoc] at this
 refine pub H O ez (by rw[sp,EJ ok]) hd (λj j0 j1 h=>absurd (z j j0 j1) h) (λ_ j j0 j1=>?_);rw[z j j0 j1];intro h;have:=h.2;rw[show (0:Int) / 16 = 0 from rfl,H.g.ok.e] at this;cases this
theorem Jv {α:Type} {l:List α} {i:Int} {t:α} (h:idx l i = some t):0≤i∧i < l.length:=by
 obtain⟨h0,h1,_⟩:=GL t h;exact⟨h0,h1⟩
theorem PI {S:Sim} {a n:Int} (h0:16≤a) (h1:a / 16 < S.A0.length) (h2:-1000000≤a + n) (h3:a + n≤1000000):S.top a n = some { S with A0:=AM S.A0 (a / 16) { rv S.A0 (a / 16) with top:=a + n } }:=by
 unfold Sim.top;rw[CH ω,CJ ω h1];simp only[];rw[Av h2 h3]
theorem TK {c:Nat} {S S1:Sim} {g:Gh} {i:Int} {t t' : Thr} {o:Op} (hc:c < 900000) (I:IG P S g) (B:Bd c S1) (ht:idx S.th i = some t) (ho:S.opOf i t = some o) (hk:o.kind = 1) (hpc:t.pc≠0) (hsh:Sh (xof S1 g)) (K:Kp i (xof S g) (xof S1 g)) (E:Ap S S1)
  (O:Ow (xof S1 g) i t.dst t.size) (ok:Ao o.sh = true) (hs:t.size = AC o.sh) (hd:wv S1.A5 t.dst = t.dst) (sp:wv S1.A5 (t.dst + 1) = Ab o.sh) (hz:∀j,2≤j→j < t.size→wv S1.A5 (t.dst + j) = 0)
  (hr:t'.AA = t.AA) (hn' : t'.next = t.next) (hdst:t'.dst = t.dst) (hsz:t'.size = t.size) :
  ∃S',((S1.setT i t').top t'.dst t'.size >>= λS=>S.push i t'.dst) = some S'∧(∃g',IG P S' g')∧Bd (c + 1) S'∧idx S'.th i = some (thr0 (t.AA ++ [t.dst]) (t.next + 1) 0):=by
 have T:=I.ti i t ht;have hn:=I.next ht ho;have fit:=O.fit;have d0:=O.d0;have inn:t.dst / 16 < S1.A0.length:=O.inn;have n1:=hsh.g.ok.n1;simp only at n1;have hl:=T.r8 o ho hpc (.inl hk);have sb:2≤t.size∧t.size≤10:=by
  have hb:=ok;simp only[Ao,z_b,z_d] at hb;rw[hs,If ω];omega
 rw[hdst,hsz,PI d0 (by exact inn) ω ω];simp only[Tm,z_o];obtain⟨h1,K1⟩:=SD hsh O ok hs hd sp hz;have B2:Bd c { S1 with A0:=AM S1.A0 (t.dst / 16) { rv S1.A0 (t.dst / 16) with top:=t.dst + t.size } }:=⟨B.ev,B.old,B.cy,B.fu,B.st,B.pn⟩;rw[Mu (t:=t') ?_ (by rw[hr];omega) ?_ (by rw[hn'];exact hn)]
 ·obtain⟨I',B',ht'⟩:=EO (ans:=0) (code:=0) (S1:={ S1 with A0:=AM S1.A0 (t.dst / 16) { rv S1.A0 (t.dst / 16) with top:=t.dst + t.size } }) (g':={ g with B:=λa=>g.B a∨a = t.dst,L:=λa=>g.L a∨a = t.dst }) I B2 ht ho h1 (K.trans K1 I.sh hsh) ⟨E.th,E.col,E.AJ,E.pc_,E.stop,E.full,λq q0=>by
    rw[← E.AH q q0]
    show (rv (AM S1.A0 (t.dst / 16) _) q).AH = _
    rw[Cv ω inn q0];split
    ·subst q;rfl
    ·rfl⟩ (t.AA ++ [t.dst]) (λa h h0=>by
     rcases U7.1 h with h | h
     ·exact .inl (K.l a (T.rt a h h0))
     ·simp only[U2] at h;exact .inr h) (by simp;omega)
  refine⟨_,?_,⟨_,I'⟩,B',ht'⟩;unfold Sim.evd Sim.setT;simp only[GM,hr,hn']
 ·refine PW (c:=c) ⟨B.ev,B.old,B.cy,B.fu,B.st,B.pn⟩ hc λu hu=>?_
  rcases Uc (show u∈AM S1.th i t' from hu) with h | h
  ·rw[E.th] at h;have:=I.AA u h;omega
  ·rw[h,hr];omega
 ·show idx (AM S1.th i t') i = _;rw[E.th];exact E8 ht
theorem OH {c:Nat} {S:Sim} {g:Gh} {i:Int} {t:Thr} {o:Op} (hc:c < 900000) (I:IG P S g) (B:Bd c S) (ht:idx S.th i = some t) (ho:S.opOf i t = some o) (m:Mg (xof S g) i o t):Out P c i t.pc (S.making i):=by
 have T:=I.ti i t ht;have p:=m.p;have hpc:t.pc≠0:=ω
 have hwl:=I.wl;obtain⟨i0,i1⟩:=Jv ht;have hn1:=I.n1;have sb:2≤AC o.sh∧AC o.sh≤10:=by
  have hb:=m.sh;simp only[Ao,z_b,z_d] at hb;rw[If ω];omega
 unfold Sim.making;rw[ht];simp only[Tm,z_o];rw[ho];simp only[z_o];by_cases c30:t.pc = 30
 ·rw[if_pos c30];rcases E0 (o:=i) (size:=AC o.sh) I.sh.g.ok ω ω ω ω with h | ⟨t',d,h,P⟩
  ·have h' : As S.A0 i (AC o.sh) = none:=h;simp only[h'];split
   ·rw[DW (I.szok rfl B hc) ht (I.next ht ho)];obtain⟨I',B',ht'⟩:=EO (ans:=0) (code:=6) I B ht ho I.sh (Kp.refl i _) (Ap.refl S) t.AA T.rt T.rl;exact⟨_,g,rfl,I',B',.inr ⟨_,ht',.inl rfl⟩⟩
   ·obtain⟨S',h1,I',B',ht'⟩:=LE I B ht I.sh (Kp.refl i _) (Ap.refl S);exact⟨S',g,h1,I',B'.mono (UJ c),.inr ⟨_,ht',.inl rfl⟩⟩
  ·have h' : As S.A0 i (AC o.sh) = some (t',d):=h;simp only[h'];obtain⟨h1,K,O⟩:=room I.sh P;obtain⟨I',B',ht'⟩:=CB (S1:={ S with A0:=t' }) (g':=g) (t':={ t with size:=AC o.sh,dst:=d,i:=2,pc:=31 }) I (c:=c) ⟨B.ev,B.old,B.cy,B.fu,B.st,B.pn⟩ ht h1 K ⟨rfl,rfl,rfl,rfl,rfl,rfl,P.AH⟩
    (T.upd K rfl rfl hpc ho (.mg ⟨σ,m.k,m.sh,λ_=>rfl,λ_=>O,λ_ _=>rfl,σ,σ,σ,σ⟩))
   refine⟨_,g,rfl,I',B'.mono (UJ c),.inr ⟨_,ht',.inr ?_⟩⟩;rw[c30];show rk 31 < rk 30;decide
 rw[if_neg c30];have hs:=m.sz ω;have O:=m.ow ω;have ow:t.dst + t.size≤S.A5.length:=O.wl I.sh.g;have d0:=O.d0;by_cases c31:t.pc = 31
 ·rw[if_pos c31,CM ω ω];simp only[z_o];obtain⟨h1,K⟩:=Pj (z:=t.dst) (v:=t.dst) I.sh O ω ω;obtain⟨I',B',ht'⟩:=CB (S1:={ S with used:=true,A5:=AM S.A5 t.dst t.dst }) (g':=g) (t':={ t with pc:=32 }) I (c:=c) ⟨B.ev,B.old,B.cy,B.fu,B.st,B.pn⟩ ht h1 K ⟨rfl,rfl,rfl,rfl,rfl,rfl,λ_ _=>rfl⟩
   (T.upd K rfl rfl hpc ho (.mg ⟨σ,m.k,m.sh,λ_=>hs,λ_=>⟨O.d0,O.k,O.o,O.top,O.fit⟩,λ_ _=>m.i2 ω ω,σ,λ_=>by
    show wv (AM S.A5 t.dst t.dst) t.dst = t.dst
    rw[Co ω ω ω,if_pos rfl],σ,σ⟩))
  exact⟨_,g,rfl,I',B'.mono (UJ c),.inl rfl⟩
 rw[if_neg c31];by_cases c32:t.pc = 32
 ·have hi:=m.i2 ω ω;have hd:wv S.A5 t.dst = t.dst:=m.hd ω;rw[if_pos c32,Av ω ω];simp only[z_o];rw[CM ω ω];simp only[z_o];obtain⟨h1,K⟩:=Pj (z:=t.dst + 1) (v:=Ab o.sh) I.sh O ω ω;have e:∀u,0≤u→wv (AM S.A5 (t.dst + 1) (Ab o.sh)) u = if u = t.dst + 1 then Ab o.sh else wv S.A5 u:=λu hu=>Co ω ω hu
  have hd' : wv (AM S.A5 (t.dst + 1) (Ab o.sh)) t.dst = t.dst:=by rw[e _ ω,if_neg ω];exact hd
  have sp' : wv (AM S.A5 (t.dst + 1) (Ab o.sh)) (t.dst + 1) = Ab o.sh:=by rw[e _ ω,if_pos rfl]
  have O' : Ow (xof { S with used:=true,A5:=AM S.A5 (t.dst + 1) (Ab o.sh) } g) i t.dst t.size:=⟨O.d0,O.k,O.o,O.top,O.fit⟩;split
  ·rename_i hsz;have hsz:t.i = t.size:=hsz;obtain⟨S',e1,⟨g',I'⟩,B',ht'⟩:=TK (S1:={ S with used:=true,A5:=AM S.A5 (t.dst + 1) (Ab o.sh) }) (t':={ t with pc:=33 }) hc I ⟨B.ev,B.old,B.cy,B.fu,B.st,B.pn⟩ ht ho m.k hpc h1 K ⟨rfl,rfl,rfl,rfl,rfl,rfl,λ_ _=>rfl⟩ O' m.sh hs hd' sp' (λj j0 j1=>ω) rfl rfl rfl rfl;exact⟨S',g',e1,I',B',.inr ⟨_,ht',.inl rfl⟩⟩
  ·rename_i hsz;have hsz:t.i≠t.size:=hsz;obtain⟨I',B',ht'⟩:=CB (S1:={ S with used:=true,A5:=AM S.A5 (t.dst + 1) (Ab o.sh) }) (g':=g) (t':={ t with pc:=33 }) I (c:=c) ⟨B.ev,B.old,B.cy,B.fu,B.st,B.pn⟩ ht h1 K ⟨rfl,rfl,rfl,rfl,rfl,rfl,λ_ _=>rfl⟩
    (T.upd K rfl rfl hpc ho (.mg ⟨σ,m.k,m.sh,λ_=>hs,λ_=>O',λ_ h=>absurd h σ,λ_=>⟨by show 2≤t.i;omega,by show t.i < t.size;omega⟩,λ_=>hd',λ_=>sp',λ_ j j0 j1=>by have j1:j < t.i:=j1;omega⟩))
   exact⟨_,g,rfl,I',B'.mono (UJ c),.inl rfl⟩
 ·have c33:t.pc = 33:=ω
  have hi:=m.i3 c33;have hd:wv S.A5 t.dst = t.dst:=m.hd ω;have sp:wv S.A5 (t.dst + 1) = Ab o.sh:=m.sp ω;have z:∀j,2≤j→j < t.i→wv S.A5 (t.dst + j) = 0:=m.z ω;rw[if_neg c32,if_pos c33,Av ω ω];simp only[z_o];rw[CM ω ω];simp only[z_o];rw[Av ω ω];simp only[z_o];obtain⟨h1,K⟩:=Pj (z:=t.dst + t.i) (v:=0) I.sh O ω ω;have e:∀u,0≤u→wv (AM S.A5 (t.dst + t.i) 0) u = if u = t.dst + t.i then 0 else wv S.A5 u:=λu hu=>Co ω ω hu
  have hd' : wv (AM S.A5 (t.dst + t.i) 0) t.dst = t.dst:=by rw[e _ ω,if_neg ω];exact hd
  have sp' : wv (AM S.A5 (t.dst + t.i) 0) (t.dst + 1) = Ab o.sh:=by rw[e _ ω,if_neg ω];exact sp
  have z' : ∀j,2≤j→j < t.i + 1→wv (AM S.A5 (t.dst + t.i) 0) (t.dst + j) = 0:=λj j0 j1=>by
   rw[e _ ω];split
   ·rfl
   ·exact z j j0 ω
  have O' : Ow (xof { S with used:=true,A5:=AM S.A5 (t.dst + t.i) 0 } g) i t.dst t.size:=⟨O.d0,O.k,O.o,O.top,O.fit⟩;split
  ·rename_i hsz;have hsz:t.i + 1 = t.size:=hsz;obtain⟨S',e1,⟨g',I'⟩,B',ht'⟩:=TK (S1:={ S with used:=true,A5:=AM S.A5 (t.dst + t.i) 0 }) (t':={ t with i:=t.i + 1,pc:=33 }) hc I ⟨B.ev,B.old,B.cy,B.fu,B.st,B.pn⟩ ht ho m.k hpc h1 K ⟨rfl,rfl,rfl,rfl,rfl,rfl,λ_ _=>rfl⟩ O' m.sh hs hd' sp' (λj j0 j1=>z' j j0 ω) rfl rfl rfl rfl;exact⟨S',g',e1,I',B',.inr ⟨_,ht',.inl rfl⟩⟩
  ·rename_i hsz;have hsz:t.i + 1≠t.size:=hsz;obtain⟨I',B',ht'⟩:=CB (S1:={ S with used:=true,A5:=AM S.A5 (t.dst + t.i) 0 }) (g':=g) (t':={ t with i:=t.i + 1,pc:=33 }) I (c:=c) ⟨B.ev,B.old,B.cy,B.fu,B.st,B.pn⟩ ht h1 K ⟨rfl,rfl,rfl,rfl,rfl,rfl,λ_ _=>rfl⟩
    (T.upd K rfl rfl hpc ho (.mg ⟨σ,m.k,m.sh,λ_=>hs,λ_=>O',λ_ h=>absurd h σ,λ_=>⟨by show 2≤t.i + 1;omega,by show t.i + 1 < t.size;omega⟩,λ_=>hd',λ_=>sp',λ_ j j0 j1=>z' j j0 j1⟩))
   exact⟨_,g,rfl,I',B'.mono (UJ c),.inl rfl⟩
theorem Mx {c:Nat} {S:Sim} {g:Gh} {i v:Int} (hz:S.sz = true) (H:Sh (xof S g)) (B:Bd c S) (hv:v≠0→g.L v) :
  ∃S1,S.oldV v = some S1∧Sh (xof S1 g)∧Kp i (xof S g) (xof S1 g)∧Ap S S1∧Bd (c + 1) S1∧S1.used = S.used∧S1.A5 = S.A5∧S1.A0 = S.A0∧S1.AW = S.AW∧(S.AW = 1→Lg (xof S1 g) v):=by
 unfold Sim.oldV;rw[hz];simp only[Bool.not_true,U1,if_false];by_cases h1:S.AW = 1
 ·by_cases h0:v = 0
  ·rw[if_neg ω];exact⟨S,rfl,H,Kp.refl i _,Ap.refl S,B.mono (UJ c),rfl,rfl,rfl,rfl,λ_=>.inl h0⟩
  ·rw[if_pos ⟨h1,h0⟩];have M:=H.mp h1;obtain⟨P,K⟩:=TZ (o:=i) (l:=S.old ++ [v]) H (λu hu=>by
    rcases U7.1 hu with h | h
    ·exact M.old u h
    ·simp only[U2] at h;subst h;exact hv h0) (λu hu=>UH _ hu)
   have B':=B.mono (UJ c);refine⟨_,rfl,P,K,⟨rfl,rfl,rfl,rfl,rfl,rfl,λ_ _=>rfl⟩,⟨B'.ev,?_,B'.cy,B'.fu,?_,B'.pn⟩,rfl,rfl,rfl,rfl,λ_=>.inr (.inr (.inr (.inl (UQ _ σ))))⟩
   ·have:=B.old;show (S.old ++ [v]).length≤c + 1;simp;omega
   ·have:=B.st;show S.col.AD.length + (S.old ++ [v]).length + 5 * S.AJ.countP (λb=>!b) + (if S.col.pc = 2 then (S.col.sh.refs - S.col.i).toNat else 0)≤3000 + (c + 1);simp only[Tn,U0];omega
 ·rw[if_neg ω];exact⟨S,rfl,H,Kp.refl i _,Ap.refl S,B.mono (UJ c),rfl,rfl,rfl,rfl,λh=>absurd h h1⟩
end Sm
end
section
namespace Sm
variable {P:List (List Op)}
theorem IG.usd {S:Sim} {g:Gh} (I:IG P S g) (b:Bool):IG P { S with used:=b } g:=⟨I.pg,I.sh,I.n0,I.n1,I.pl,I.pp,I.ti,I.c1,I.c2,I.c3,I.wt,I.rs⟩
theorem Bd.usd {c:Nat} {S:Sim} (B:Bd c S) (b:Bool):Bd c { S with used:=b }:=⟨B.ev,B.old,B.cy,B.fu,B.st,B.pn⟩
def OC (P:List (List Op)) (c:Nat) (r:Option Sim):Prop:=∃S' g',r = some S'∧IG P S' g'∧Bd (c + 1) S'∧S'.used = true
theorem OC.out {c:Nat} {i pc:Int} {r:Option Sim} (h:OC P c r):Out P c i pc r:=by
 obtain⟨S',g',h1,h2,h3,h4⟩:=h;exact⟨S',g',h1,h2,h3,.inl h4⟩
section
variable {c:Nat} {S:Sim} {g:Gh} {i:Int} {t:Thr} {o:Op}
theorem Dg (hc:c < 900000) (I:IG P S g) (B:Bd c S) (ht:idx S.th i = some t) (ho:S.opOf i t = some o) (ans code:Int):∃S',S.event i ans code = some S'∧IG P S' g∧Bd (c + 1) S'∧idx S'.th i = some (thr0 t.AA (t.next + 1) 0)∧S'.used = S.used:=by
 rw[DW (I.szok rfl B hc) ht (I.next ht ho)];have T:=I.ti i t ht;obtain⟨I',B',ht'⟩:=EO (ans:=ans) (code:=code) I B ht ho I.sh (Kp.refl i _) (Ap.refl S) t.AA T.rt T.rl;exact⟨_,rfl,I',B',ht',rfl⟩
theorem K9 (hc:c < 900000) (I:IG P S g) (B:Bd c S) (ht:idx S.th i = some t) (ho:S.opOf i t = some o) {a:Int} (ha:a≠0→g.L a) (hl:t.AA.length < 8):∃S',S.push i a = some S'∧IG P S' g∧Bd (c + 1) S'∧idx S'.th i = some (thr0 (t.AA ++ [a]) (t.next + 1) 0)∧S'.used = S.used:=by
 rw[Mu (I.szok rfl B hc) ω ht (I.next ht ho)];have T:=I.ti i t ht;obtain⟨I',B',ht'⟩:=EO (ans:=0) (code:=0) I B ht ho I.sh (Kp.refl i _) (Ap.refl S) (t.AA ++ [a]) (λb h h0=>by
  rcases U7.1 h with h | h
  ·exact T.rt b h h0
  ·simp only[U2] at h;subst h;exact ha h0) (by simp;omega)
 exact⟨_,rfl,I',B',ht',rfl⟩
theorem Qq {v:Int} (hc:c < 900000) (I:IG P S g) (B:Bd c S) (ht:idx S.th i = some t) (ho:S.opOf i t = some o) (b:Bs (xof S g) o t t.pc) (hp:t.pc = 5∨t.pc = 12) (hv:v≠0→g.L v) (hu:S.used = true):OC P c (S.load i v):=by
 have T:=I.ti i t ht;have hpc:t.pc≠0:=ω
 have hk:o.kind = 2:=b.k5 ω;have hl:=T.r8 o ho hpc (.inr hk);unfold Sim.load;rw[ht];simp only[Tm,z_o];split
 ·rename_i h;obtain⟨S',h1,h2,h3,_,h5⟩:=K9 (a:=t.v) hc I B ht ho (b.v ω ω) hl;exact⟨S',g,h1,h2,h3,by rw[h5,hu]⟩
 ·obtain⟨d,hd,hdf⟩:=I.frm hv;rw[hd];simp only[z_o];cases d with
  | false=>
   rw[if_pos τ];obtain⟨S',h1,h2,h3,_,h5⟩:=K9 (a:=v) hc I B ht ho hv hl;exact⟨S',g,h1,h2,h3,by rw[h5,hu]⟩
  | true=>
   rw[if_neg σ];have b1:Bs (xof S g) o { t with u:=v,v:=v } 11:=⟨δ,b.k,b.h,b.g,b.kk,b.h0,λ_=>b.nh ω,λ_=>b.ng ω,λ_=>b.nk ω,λ_=>b.s ω,λ_=>b.f ω,λ_=>hk,λh=>absurd h δ,λh=>absurd h δ,λh=>absurd h δ,λh=>absurd h δ,λh=>absurd h δ,λh=>absurd h δ,λ_ _=>hv,λh=>absurd h δ,λh=>absurd h δ⟩;obtain⟨I',B',_⟩:=CB (t':={ t with u:=v,v:=v,pc:=11 }) I B ht I.sh (Kp.refl i _) (Ap.refl S) (T.upd (Kp.refl i _) rfl rfl hpc ho (.bs (b1.eqv rfl rfl rfl rfl rfl rfl)));exact⟨_,g,rfl,I',B'.mono (UJ c),hu⟩
theorem Mt {w:List Int} {t:List Rg} {B:Int→Prop} (G:Geo w t B) {v:Int} (h:Aw t v):v≠0:=by
 intro c;subst c;have:=h.2;rw[show (0:Int) / 16 = 0 from rfl,G.ok.e] at this;cases this
theorem IG.ph2 {v:Int} (I:IG P S g) (h:Aw S.A0 v):S.AW = 2∨S.AW = 3:=by
 have hp:0≤S.AW∧S.AW≤3:=I.sh.ph;by_cases c:S.AW≤1
 ·exact absurd h.2 (I.sh.nf c (v / 16) (by have:=h.1;omega))
 ·omega
theorem N6 {v:Int} (hc:c < 900000) (I:IG P S g) (B:Bd c S) (ht:idx S.th i = some t) (ho:S.opOf i t = some o) (b:Bs (xof S g) o t t.pc) (hp:t.pc = 10∨t.pc = 16) (hv:v≠0→g.L v) (hu:S.used = true):OC P c (S.swap i v):=by
 have T:=I.ti i t ht;have hpc:t.pc≠0:=ω
 have hk:o.kind = 7:=b.k10 ω;unfold Sim.swap;rw[ht];simp only[Tm,z_o];split
 ·obtain⟨S',h1,h2,h3,_,h5⟩:=Dg hc I B ht ho 0 0;exact⟨S',g,h1,h2,h3,by rw[h5,hu]⟩
 ·obtain⟨d,hd,hdf⟩:=I.frm hv;rw[hd];simp only[z_o];cases d with
  | true=>
   have hf:Aw S.A0 v:=hdf.1 rfl;rw[if_pos rfl];have b1:Bs (xof S g) o { t with u:=v,v:=v } 15:=⟨δ,b.k,b.h,b.g,b.kk,b.h0,λ_=>b.nh ω,λ_=>b.ng ω,λ_=>b.nk ω,λ_=>b.s ω,λ_=>b.f ω,λh=>absurd h δ,λh=>absurd h δ,λh=>absurd h δ,λh=>absurd h δ,λ_=>hk,λh=>absurd h δ,λh=>absurd h δ,λ_ _=>hv,λh=>absurd h δ,λ_=>by show S.AW≠1;have:=I.ph2 hf;omega⟩;obtain⟨I',B',_⟩:=CB (t':={ t with u:=v,v:=v,pc:=15 }) I B ht I.sh (Kp.refl i _) (Ap.refl S) (T.upd (Kp.refl i _) rfl rfl hpc ho (.bs (b1.eqv rfl rfl rfl rfl rfl rfl)));exact⟨_,g,rfl,I',B'.mono (UJ c),hu⟩
  | false=>
   rw[if_neg δ];split
   ·obtain⟨S',h1,h2,h3,_,h5⟩:=Dg hc I B ht ho 0 0;exact⟨S',g,h1,h2,h3,by rw[h5,hu]⟩
   ·obtain⟨S1,e1,H1,K1,E1,B1,u1,w1,t1,p1,l1⟩:=Mx (i:=i) (I.szok rfl B hc) I.sh B hv;rw[e1];simp only[z_o];have b0:=b.stable I.sh K1;have b1:Bs (xof S1 g) o { t with u:=v } 14:=⟨δ,b0.k,b0.h,b0.g,b0.kk,b0.h0,λ_=>b0.nh ω,λ_=>b0.ng ω,λ_=>b0.nk ω,λ_=>b0.s ω,λ_=>b0.f ω,λh=>absurd h δ,λh=>absurd h δ,λh=>absurd h δ,λh=>absurd h δ,λ_=>hk,λh=>absurd h δ,λ_ hp=>l1 (by rw[← p1];exact hp),λ_ h=>absurd rfl h,λh=>absurd h δ,λh=>absurd h δ⟩;obtain⟨I',B',_⟩:=CB (t':={ t with u:=v,pc:=14 }) I B1 ht H1 K1 E1 (T.upd K1 rfl rfl hpc ho (.bs (b1.eqv rfl rfl rfl rfl rfl rfl)));exact⟨_,g,rfl,I',B',by show S1.used = true;rw[u1,hu]⟩
theorem Qm {AI l:List Int} {kind a:Int} (h:EC AI kind a = some l) (h8:AI.length≤8):l.length≤8∧∀v∈l,v∈AI∨v = a:=by
 unfold EC at h;split at h
 ·split at h
  ·cases h
  ·cases h;refine⟨by simp;omega,λv hv=>?_⟩;simpa using hv
 ·split at h
  ·cases h;refine⟨by simp;omega,λv hv=>.inl ?_⟩;rcases U7.1 hv with h | h
   ·exact UO h
   ·exact Uu h
  ·cases h
theorem PX (hc:c < 900000) (I:IG P S g) (B:Bd c S) (ht:idx S.th i = some t) (ho:S.opOf i t = some o) (b:Bs (xof S g) o t t.pc) (hp:t.pc = 4):Out P c i t.pc (S.shape i):=by
 have T:=I.ti i t ht;have hpc:t.pc≠0:=ω
 have hk:=b.k;unfold Sim.shape;rw[ht];simp only[Tm,z_o];rw[I.szok rfl B hc,if_neg δ,ho];simp only[z_o];split
 ·obtain⟨S',h1,h2,h3,h4,_⟩:=Dg hc I B ht ho (one (t.h == t.g)) 0;exact⟨S',g,h1,h2,h3,.inr ⟨_,h4,.inl rfl⟩⟩
 ·rename_i k6;split
  ·rename_i k10;split
   ·obtain⟨S',h1,h2,h3,h4,_⟩:=Dg hc I B ht ho 0 7;exact⟨S',g,h1,h2,h3,.inr ⟨_,h4,.inl rfl⟩⟩
   ·rename_i AI hpins;obtain⟨q1,q2⟩:=Qm hpins B.pn;obtain⟨P,K⟩:=Te (o:=i) (l:=AI) I.sh λv hv=>by
     rcases q2 v hv with h | h
     ·exact I.sh.pl v h
     ·subst h;exact⟨b.h (b.h0 k6),b.nh ω⟩
    have B1:Bd c { S with AI:=AI }:=⟨B.ev,B.old,B.cy,B.fu,B.st,q1⟩;rw[DW (S:={ S with AI:=AI }) (I.szok rfl B1 hc) ht (I.next ht ho)];obtain⟨I',B',ht'⟩:=EO (ans:=0) (code:=0) (S1:={ S with AI:=AI }) I B1 ht ho P K ⟨rfl,rfl,rfl,rfl,rfl,rfl,λ_ _=>rfl⟩ t.AA T.rt T.rl;exact⟨_,g,rfl,I',B',.inr ⟨_,ht',.inl rfl⟩⟩
  ·rename_i k10;have hh:=b.h0 k6;obtain⟨a1,a2,a3,a4,a5,a6⟩:=I.in_ (b.h hh);have hwl:=I.wl;rw[Av ω ω];simp only[z_o];rw[Bl ω ω];simp only[z_o];have es:(AN (wv S.A5 (t.h + 1))).1 = shp S.A5 t.h:=rfl;rw[es];split
   ·obtain⟨S',h1,h2,h3,h4,h5⟩:=Dg (S:={ S with used:=true }) hc (I.usd true) (B.usd true) ht ho 0 4;exact⟨S',g,h1,h2,h3,.inl h5⟩
   ·rename_i hf;have sb:=Dp S.A5 t.h;have hf:F4 o (shp S.A5 t.h).refs (shp S.A5 t.h).nums = true:=by simpa using hf
    have hfld:0≤o.f∧(o.kind = 4∨o.kind = 5→o.f < (shp S.A5 t.h).nums)∧(o.kind≠4→o.kind≠5→o.f < (shp S.A5 t.h).refs):=by
     unfold F4 at hf;split at hf
     ·rename_i h45;simp only[U8,beq_iff_eq] at h45;simp only[z_b,z_d] at hf;exact⟨hf.1,λ_=>hf.2,λh4 h5=>by rcases h45 with h | h<;>contradiction⟩
     ·rename_i h45;simp only[U8,beq_iff_eq,not_or] at h45;simp only[z_b,z_d] at hf;exact⟨hf.1,λh=>by rcases h with h | h<;>simp[h] at h45,λ_ _=>hf.2⟩
    have go:∀q:Int,(q = 5∨q = 6∨q = 7∨q = 8∨q = 9∨q = 10)→(q = 5→o.kind = 2)→(q = 6∨q = 7→o.kind = 3)→(q = 8→o.kind = 4)→(q = 9→o.kind = 5)→(q = 10→o.kind = 7)→(q = 7→S.AW≠1)→
      OC P c (some (({ S with used:=true }:Sim).setT i { t with sh:=shp S.A5 t.h,pc:=q })):=λq hq h5 h6 h8 h9 h10 h7=>by
     have b1:Bs (xof S g) o { t with sh:=shp S.A5 t.h } q:=⟨ω,b.k,b.h,b.g,b.kk,b.h0,λ_=>b.nh ω,λ_=>b.ng ω,λ_=>b.nk ω,λ_=>⟨rfl,hh⟩,λ_=>hfld,λh=>h5 ω,λh=>h6 ω,h8,h9,λh=>h10 ω,λh hph=>absurd hph (h7 h),λh=>ω,λh=>ω,λh=>ω,λh=>ω⟩;obtain⟨I',B',_⟩:=CB (S1:={ S with used:=true }) (t':={ t with sh:=shp S.A5 t.h,pc:=q }) I (B.usd true) ht I.sh (Kp.refl i _) ⟨rfl,rfl,rfl,rfl,rfl,rfl,λ_ _=>rfl⟩ (T.upd (Kp.refl i _) rfl rfl hpc ho (.bs (b1.eqv rfl rfl rfl rfl rfl rfl)));exact⟨_,g,rfl,I',B'.mono (UJ c),rfl⟩
    refine OC.out ?_;by_cases k2:o.kind = 2
    ·rw[if_pos k2];exact go 5 ω (λ_=>k2) ω ω ω ω ω
    rw[if_neg k2];by_cases k3:o.kind = 3
    ·rw[if_pos k3];split
     ·exact go 6 ω ω (λ_=>k3) ω ω ω ω
     ·rename_i h;exact go 7 ω ω (λ_=>k3) ω ω ω (λ_=>h)
    rw[if_neg k3];by_cases k4:o.kind = 4
    ·rw[if_pos k4];exact go 8 ω ω ω (λ_=>k4) ω ω ω
    rw[if_neg k4];by_cases k5:o.kind = 5
    ·rw[if_pos k5];exact go 9 ω ω ω ω (λ_=>k5) ω ω
    rw[if_neg k5,if_pos ω];exact go 10 ω ω ω ω ω (λ_=>ω) ω
end
end Sm
end
section
namespace Sm
variable {P:List (List Op)}
section
variable {c:Nat} {S:Sim} {g:Gh} {i:Int} {t:Thr} {o:Op}
theorem Q0 (hc:c < 900000) (I:IG P S g) (B:Bd c S) (ht:idx S.th i = some t) (ho:S.opOf i t = some o) (b:Bs (xof S g) o t t.pc) (hp:5≤t.pc) (h11:t.pc≠11) (h15:t.pc≠15):Out P c i t.pc (S.field i):=by
 have T:=I.ti i t ht;have hpc:t.pc≠0:=ω
 have hwl:=I.wl;have hbp:=b.p;obtain⟨hsh,hh⟩:=b.s hp;have hL:=b.h hh;have hN:=b.nh ω;obtain⟨a1,a2,a3,a4,a5,a6⟩:=I.in_ hL;have sb:=Dp S.A5 t.h;simp only at hsh;obtain⟨f0,fn,fr⟩:=b.f hp;have fr' : o.kind≠4→o.kind≠5→o.f < (shp S.A5 t.h).refs:=λh h'=>by rw[← hsh];exact fr h h'
 have fn' : o.kind = 4∨o.kind = 5→o.f < (shp S.A5 t.h).nums:=λh=>by rw[← hsh];exact fn h
 have B1:=B.usd true;have I1:=I.usd true;have rdv:o.kind≠4→o.kind≠5→wv S.A5 (t.h + 2 + o.f)≠0→g.L (wv S.A5 (t.h + 2 + o.f)):=λh h'=>I.sh.rf t.h o.f hL f0 (fr' h h')
 have o1:o.f < 5:=by
  by_cases k:o.kind = 4∨o.kind = 5
  ·have:=fn' k;omega
  ·have:=fr' (λh=>k (.inl h)) (λh=>k (.inr h));omega
 have opu:({ S with used:=true }:Sim).opOf i t = some o:=ho;unfold Sim.field;rw[ht];simp only[Tm,z_o];rw[ho];simp only[z_o];rw[Av ω ω];simp only[z_o];rw[Av ω ω];simp only[z_o];rw[Av (by rw[hsh];omega) (by rw[hsh];omega)];simp only[z_o];rw[Av (by rw[hsh];omega) (by rw[hsh];omega)];simp only[z_o];by_cases c5:t.pc = 5∨t.pc = 12
 ·have hk:=b.k5 ω;have f1:=fr' ω ω;rw[if_pos c5,Bl ω ω];simp only[z_o];exact (Qq hc I1 B1 ht opu b c5 (rdv ω ω) rfl).out
 rw[if_neg c5];by_cases c6:t.pc = 6
 ·have hk:=b.k6 ω;have f1:=fr' ω ω;rw[if_pos c6,Bl ω ω];simp only[z_o];obtain⟨S1,e1,H1,K1,E1,B1',u1,w1,t1,p1,l1⟩:=Mx (i:=i) (I1.szok rfl B1 hc) I1.sh B1 (rdv ω ω);rw[e1];simp only[z_o];have b0:=b.stable I.sh K1;have b1:Bs (xof S1 g) o t 7:=⟨δ,b0.k,b0.h,b0.g,b0.kk,b0.h0,λ_=>b0.nh ω,λ_=>b0.ng ω,λ_=>b0.nk ω,λ_=>b0.s ω,λ_=>b0.f ω,λh=>absurd h δ,λ_=>hk,λh=>absurd h δ,λh=>absurd h δ,λh=>absurd h δ,λ_ hph htm=>by
    have hph' : S.AW = 1:=by rw[← p1];exact hph
    rw[K1.tma (show (0:Int)≤t.h by omega)] at htm
    rcases (I.sh.mp hph').un t.h o.f hL htm f0 f1 with h | h
    ·have:=l1 hph'
     rw[show (xof S1 g).q (t.h + 2 + o.f) = wv S.A5 (t.h + 2 + o.f) from h.symm]
     exact this
    ·exact K1.lg hph' _ h,λh=>absurd h δ,λh=>absurd h δ,λh=>absurd h δ,λh=>absurd h δ⟩
  obtain⟨I',B',_⟩:=CB (t':={ t with pc:=7 }) I B1' ht H1 K1 ⟨E1.th,E1.col,E1.AJ,E1.pc_,E1.stop,E1.full,E1.AH⟩ (T.upd K1 rfl rfl hpc ho (.bs (b1.eqv rfl rfl rfl rfl rfl rfl)));exact⟨_,g,rfl,I',B',.inl u1⟩
 rw[if_neg c6];by_cases c7:t.pc = 7
 ·have hk:=b.k6 ω;have f1:=fr' ω ω;rw[if_pos c7,CM ω ω];simp only[z_o];obtain⟨P,K⟩:=ref (o:=i) (v:=t.g) I.sh hL hN f0 f1 b.g (b.l7 c7) (λ_=>b.ng ω);have B2:Bd c { S with used:=true,A5:=AM S.A5 (t.h + 2 + o.f) t.g }:=⟨B.ev,B.old,B.cy,B.fu,B.st,B.pn⟩;rw[DW (S:={ S with used:=true,A5:=AM S.A5 (t.h + 2 + o.f) t.g }) (I.szok rfl B2 hc) ht (I.next ht ho)];obtain⟨I',B',_⟩:=EO (ans:=0) (code:=0) (S1:={ S with used:=true,A5:=AM S.A5 (t.h + 2 + o.f) t.g }) I B2 ht ho P K ⟨rfl,rfl,rfl,rfl,rfl,rfl,λ_ _=>rfl⟩ t.AA T.rt T.rl;exact⟨_,g,rfl,I',B',.inl rfl⟩
 rw[if_neg c7];by_cases c8:t.pc = 8
 ·have hk:=b.k8 c8;have f1:=fn' (.inl hk);have e:t.h + 2 + t.sh.refs + o.f = t.h + (2 + (shp S.A5 t.h).refs + o.f):=by rw[hsh];omega
  rw[if_pos c8,e,CM ω ω];simp only[z_o];obtain⟨P,K⟩:=num (o:=i) (v:=o.v) (k:=2 + (shp S.A5 t.h).refs + o.f) I.sh hL hN (by show 2 + (shp S.A5 t.h).refs≤_;omega) (by show _ < Sm.sz S.A5 t.h;omega);have B2:Bd c { S with used:=true,A5:=AM S.A5 (t.h + (2 + (shp S.A5 t.h).refs + o.f)) o.v }:=⟨B.ev,B.old,B.cy,B.fu,B.st,B.pn⟩;rw[DW (S:={ S with used:=true,A5:=AM S.A5 (t.h + (2 + (shp S.A5 t.h).refs + o.f)) o.v }) (I.szok rfl B2 hc) ht (I.next ht ho)];obtain⟨I',B',_⟩:=EO (ans:=0) (code:=0) (S1:={ S with used:=true,A5:=AM S.A5 (t.h + (2 + (shp S.A5 t.h).refs + o.f)) o.v }) I B2 ht ho P K ⟨rfl,rfl,rfl,rfl,rfl,rfl,λ_ _=>rfl⟩ t.AA T.rt T.rl;exact⟨_,g,rfl,I',B',.inl rfl⟩
 rw[if_neg c8];by_cases c9:t.pc = 9
 ·have hk:=b.k9 c9;have f1:=fn' (.inr hk);rw[if_pos c9,Bl (by rw[hsh];omega) (by rw[hsh];omega)];simp only[z_o];obtain⟨S',h1,h2,h3,h4,h5⟩:=Dg (S:={ S with used:=true }) hc I1 B1 ht opu (wv S.A5 (t.h + 2 + t.sh.refs + o.f)) 0;exact⟨S',g,h1,h2,h3,.inl h5⟩
 rw[if_neg c9];have hk:o.kind = 7:=b.k10 ω;have f1:=fr' ω ω;by_cases c10:t.pc = 10
 ·rw[if_pos c10,Bl ω ω];simp only[z_o];exact (N6 hc I1 B1 ht opu b (.inl c10) (rdv ω ω) rfl).out
 rw[if_neg c10];by_cases c14:t.pc = 14
 ·rw[if_pos c14,Bl ω ω];simp only[z_o];split
  ·rename_i hu;rw[CM (S:={ S with used:=true }) ω (by show _ < (S.A5.length:Int);omega)];simp only[z_o];obtain⟨P,K⟩:=ref (o:=i) (v:=t.k) I.sh hL hN f0 f1 b.kk (λhph htm=>by
    rcases (I.sh.mp hph).un t.h o.f hL htm f0 f1 with h | h
    ·have:=b.l14 c14 hph
     rw[show (xof S g).q (t.h + 2 + o.f) = wv S.A5 (t.h + 2 + o.f) from h.symm,hu]
     exact this
    ·exact h) (λ_=>b.nk ω)
   have B2:Bd c { S with used:=true,A5:=AM S.A5 (t.h + 2 + o.f) t.k }:=⟨B.ev,B.old,B.cy,B.fu,B.st,B.pn⟩;rw[DW (S:={ S with used:=true,A5:=AM S.A5 (t.h + 2 + o.f) t.k }) (I.szok rfl B2 hc) ht (I.next ht ho)];obtain⟨I',B',_⟩:=EO (ans:=1) (code:=0) (S1:={ S with used:=true,A5:=AM S.A5 (t.h + 2 + o.f) t.k }) I B2 ht ho P K ⟨rfl,rfl,rfl,rfl,rfl,rfl,λ_ _=>rfl⟩ t.AA T.rt T.rl;exact⟨_,g,rfl,I',B',.inl rfl⟩
  ·have b1:Bs (xof S g) o t 10:=⟨δ,b.k,b.h,b.g,b.kk,b.h0,λ_=>b.nh ω,λ_=>b.ng ω,λ_=>b.nk ω,λ_=>b.s ω,λ_=>b.f ω,λh=>absurd h δ,λh=>absurd h δ,λh=>absurd h δ,λh=>absurd h δ,λ_=>hk,λh=>absurd h δ,λh=>absurd h δ,λh=>absurd h δ,λh=>absurd h δ,λh=>absurd h δ⟩;obtain⟨I',B',_⟩:=CB (S1:={ S with used:=true }) (t':={ t with pc:=10 }) I B1 ht I.sh (Kp.refl i _) ⟨rfl,rfl,rfl,rfl,rfl,rfl,λ_ _=>rfl⟩ (T.upd (Kp.refl i _) rfl rfl hpc ho (.bs (b1.eqv rfl rfl rfl rfl rfl rfl)));exact⟨_,g,rfl,I',B'.mono (UJ c),.inl rfl⟩
 rw[if_neg c14,if_pos ω];have c16:t.pc = 16:=ω
 split
 ·have b1:Bs (xof S g) o t 14:=⟨δ,b.k,b.h,b.g,b.kk,b.h0,λ_=>b.nh ω,λ_=>b.ng ω,λ_=>b.nk ω,λ_=>b.s ω,λ_=>b.f ω,λh=>absurd h δ,λh=>absurd h δ,λh=>absurd h δ,λh=>absurd h δ,λ_=>hk,λh=>absurd h δ,λ_ hph=>absurd hph (b.p15 (.inr c16)),λ_ h=>absurd rfl h,λh=>absurd h δ,λh=>absurd h δ⟩;obtain⟨I',B',ht'⟩:=CB (t':={ t with pc:=14 }) I B ht I.sh (Kp.refl i _) (Ap.refl S) (T.upd (Kp.refl i _) rfl rfl hpc ho (.bs (b1.eqv rfl rfl rfl rfl rfl rfl)));refine⟨_,g,rfl,I',B'.mono (UJ c),.inr ⟨_,ht',.inr ?_⟩⟩;rw[c16];show rk 14 < rk 16;decide
 ·rw[Bl ω ω];simp only[z_o];exact (N6 hc I1 B1 ht opu b (.inr c16) (rdv ω ω) rfl).out
theorem PR (hc:c < 900000) (I:IG P S g) (B:Bd c S) (ht:idx S.th i = some t) (hp:t.pc≠0):Out P c i t.pc (S.tstep i):=by
 have T:=I.ti i t ht;rcases T.run with ⟨h,_⟩ | ⟨o,ho,r⟩
 ·exact absurd h hp
 unfold Sim.tstep;rw[ht];simp only[Tm,z_o];cases r with
 | bs b=>
  have hbp:=b.p;by_cases c1:t.pc≤3∨t.pc = 11∨t.pc = 15
  ·rw[if_pos c1];exact Lr I B ht ho b (by unfold FC;omega)
  rw[if_neg c1];by_cases c4:t.pc = 4
  ·rw[if_pos c4];exact PX hc I B ht ho b c4
  rw[if_neg c4,if_neg ω,if_neg ω];exact Q0 hc I B ht ho b ω ω ω
 | cp b r e cp=>
  have hcp:=cp.p;rw[if_neg ω,if_neg ω,if_neg ω,if_pos ω];exact Mm I B ht ho b r e cp
 | mg m=>
  have hm:=m.p;rw[if_neg ω,if_neg ω,if_pos ω];exact OH hc I B ht ho m
theorem Ps:∀(n c:Nat) (S:Sim) (g:Gh) (t:Thr),c + n < 900000→IG P S g→Bd c S→idx S.th i = some t→(t.pc = 0∨S.used = true∨rk t.pc < n)→∀m,n < m→∃S' g',S.tloop m i = some S'∧IG P S' g'∧Bd (c + n) S':=by
 intro n;induction n with
 | zero=>
  intro c S g t hc I B ht hr m hm;obtain⟨m,rfl⟩:∃k,m = k + 1:=⟨m - 1,ω⟩;refine⟨S,g,?_,I,B⟩;unfold Sim.tloop;rw[ht];simp only[Tm,z_o];rw[if_pos];rcases hr with h | h | h
  ·exact .inr h
  ·exact .inl h
  ·omega
 | succ n ih=>
  intro c S g t hc I B ht hr m hm;obtain⟨m,rfl⟩:∃k,m = k + 1:=⟨m - 1,ω⟩;unfold Sim.tloop;rw[ht];simp only[Tm,z_o];by_cases hs:S.used = true∨t.pc = 0
  ·rw[if_pos hs];exact⟨S,g,rfl,I,B.mono ω⟩
  ·rw[if_neg hs];obtain⟨S',g',h1,I',B',hn⟩:=PR ω I B ht (λh=>hs (.inr h));rw[h1];simp only[z_o];have hr' : rk t.pc < n + 1:=by
    rcases hr with h | h | h
    ·exact absurd (.inr h) hs
    ·exact absurd (.inl h) hs
    ·exact h
   have hlen:=(Jv ht);have ht' : ∃t',idx S'.th i = some t'∧(t'.pc = 0∨S'.used = true∨rk t'.pc < n):=by
    rcases hn with h | ⟨t',h2,h3⟩
    ·have:∃t',idx S'.th i = some t':=by
      have e1:=I'.pl;have e2:=I.pl;rw[I'.pg] at e1;rw[I.pg] at e2;exact⟨_,Jg (d:=t) hlen.1 ω⟩
     obtain⟨t',h2⟩:=this;exact⟨t',h2,.inr (.inl h)⟩
    ·exact⟨t',h2,h3.imp id λh=>.inr ω⟩
   obtain⟨t',h2,h3⟩:=ht';obtain⟨S2,g2,e2,I2,B2⟩:=ih (c + 1) S' g' t' ω I' B' h2 h3 m ω;exact⟨S2,g2,e2,I2,B2.mono ω⟩
end
end Sm
end
section
namespace Sm
variable {P:List (List Op)}
theorem L5 {o:Op} {AA:List Int} (ok:Ml o = true) (h:Cf o AA 0 = 0) :
  (o.kind≠1→o.kind≠8→0≤o.a∧o.a < AA.length)∧(o.kind = 3∨o.kind = 6∨o.kind = 7→0≤o.b∧o.b < AA.length)∧(o.kind = 7→0≤o.c∧o.c < AA.length)∧
  (o.kind≠1→o.kind≠6→o.kind≠8→o.kind≠9→(idx AA o.a).getD 0≠0)∧(o.kind = 1∨o.kind = 2∨o.kind = 9→AA.length≠8):=by
 have hk:1≤o.kind∧o.kind≤11:=by
  simp only[Ml,z_b,z_d] at ok;exact ok.1
 unfold Cf at h;have hc:o.kind = 1∨o.kind = 2∨o.kind = 3∨o.kind = 4∨o.kind = 5∨o.kind = 6∨o.kind = 7∨o.kind = 8∨o.kind = 9∨o.kind = 10∨o.kind = 11:=ω
 rcases hc with k | k | k | k | k | k | k | k | k | k | k<;>simp only[k] at h ⊢<;>simp[DK,hnd] at h ⊢
 all_goals (first | omega | skip)
section
variable {c:Nat} {S:Sim} {g:Gh} {i:Int} {t:Thr} {o:Op}
theorem Fo {α:Type} {l:List α} {i:Int} {a:α} (h:idx l i = some a):a∈l:=by
 unfold idx at h;split at h
 ·exact List.mem_of_getElem? h
 ·cases h
theorem EB {α:Type} {l:List α} {i:Int} (h:0≤i∧i < l.length):∃a,idx l i = some a∧a∈l:=by
 obtain⟨h0,h1⟩:=h;have:idx l i = some (l[i.toNat]'(ω)):=by unfold idx;rw[if_pos h0,Tl]
 exact⟨_,this,Fo this⟩
theorem Q8 (hc:c < 900000) (I:IG P S g) (B:Bd c S) (ht:idx S.th i = some t) (ho:S.opOf i t = some o) (hp:t.pc = 0):∃S' g',S.begin_ i = some S'∧IG P S' g'∧Bd (c + 1) S':=by
 have T:=I.ti i t ht;have hgk:t.g = 0∧t.k = 0:=by
  rcases T.run with h | ⟨o',h,r⟩
  ·exact h.2
  ·exfalso;cases r with
   | bs b=>have:=b.p;omega
   | cp _ _ _ cp=>have:=cp.p;omega
   | mg m=>have:=m.p;omega
 have ev:∀code,∃S' g',S.event i 0 code = some S'∧IG P S' g'∧Bd (c + 1) S':=λcode=>by
  obtain⟨S',h1,h2,h3,_⟩:=Dg hc I B ht ho 0 code;exact⟨S',g,h1,h2,h3⟩
 unfold Sim.begin_;rw[ht];simp only[Tm,z_o];rw[ho];simp only[z_o];split
 ·exact ev 1
 rename_i hok;have hok:Ml o = true:=by simpa using hok
 split
 ·exact ev _
 rename_i hcode;have hcode:Cf o t.AA 0 = 0:=by simpa using hcode
 have hk:1≤o.kind∧o.kind≤11:=by
  simp only[Ml,z_b,z_d] at hok;exact hok.1
 obtain⟨fa,fb,fc,fz,f8⟩:=L5 hok hcode;have rl:=T.rl;have hL:∀(a:Int) (r:Int),idx t.AA a = some r→r≠0→g.L r:=λa r h h0=>T.rt r (Fo h) h0
 split
 ·rename_i k8;have hz:=I.szok rfl B hc;have hz2:(S.setT i { t with AA:=t.AA.take (t.AA.length - 1) }).sz = true:=by
   refine PW (c:=c) ⟨B.ev,B.old,B.cy,B.fu,B.st,B.pn⟩ hc λu hu=>?_
   rcases Uc (show u∈AM S.th i _ from hu) with h | h
   ·have:=I.AA u h;omega
   ·rw[h];simp;omega
  rw[DW hz2 (E8 ht) (by have:=I.next ht ho;exact this)];obtain⟨I',B',_⟩:=EO (ans:=0) (code:=0) I B ht ho I.sh (Kp.refl i _) (Ap.refl S) (t.AA.take (t.AA.length - 1)) (λa h=>T.rt a (UO h)) (by simp;omega);refine⟨_,g,?_,I',B'⟩;unfold Sim.evd Sim.setT;simp only[GM]
 split
 ·rename_i k8 k9;obtain⟨a,ha,ham⟩:=EB (fa ω ω);rw[ha];simp only[z_o];obtain⟨S',h1,h2,h3,_⟩:=K9 hc I B ht ho (a:=a) (T.rt a ham) (by have:=f8 ω;omega);exact⟨S',g,h1,h2,h3⟩
 split
 ·rename_i k8 k9 k1;obtain⟨I',B',_⟩:=CB (t':={ t with pc:=30 }) I B ht I.sh (Kp.refl i _) (Ap.refl S)
   ⟨T.rt,T.rl,T.nx,λo' h' _ _=>by have:=f8 ω;show t.AA.length < 8;omega,.inr ⟨o,ho,.mg ⟨σ,k1,by
    simp only[Ml,z_b,U8,k1] at hok
    simpa using hok.2,σ,σ,σ,σ,σ,σ,σ⟩⟩⟩
  exact⟨_,g,rfl,I',B'.mono (UJ c)⟩
 rename_i k8 k9 k1;obtain⟨a,ha,ham⟩:=EB (fa k1 k8);have ha0:o.kind≠6→a≠0:=λk6=>by
  have:=fz k1 k6 k8 k9;rw[ha] at this;exact this
 rw[ha];simp only[z_o];have fin:∀(gg kk:Int),(gg≠0→g.L gg)→(kk≠0→g.L kk)→∃S' g',some (S.setT i { t with pc:=1,h:=a,g:=gg,k:=kk }) = some S'∧IG P S' g'∧Bd (c + 1) S':=λgg kk hg hkk=>by
  have b1:Bs (xof S g) o { t with pc:=1,h:=a,g:=gg,k:=kk } 1:=⟨δ,⟨ω,ω,ω,ω⟩,T.rt a ham,hg,hkk,ha0,λh=>absurd h δ,λh=>absurd h δ,λh=>absurd h δ,λh=>absurd h δ,λh=>absurd h δ,λh=>absurd h δ,λh=>absurd h δ,λh=>absurd h δ,λh=>absurd h δ,λh=>absurd h δ,λh=>absurd h δ,λh=>absurd h δ,λh=>absurd h δ,λh=>absurd h δ,λh=>absurd h δ⟩;obtain⟨I',B',_⟩:=CB (t':={ t with pc:=1,h:=a,g:=gg,k:=kk }) I B ht I.sh (Kp.refl i _) (Ap.refl S)
   ⟨T.rt,T.rl,T.nx,λo' h' _ hk'=>by
    have:o' = o:=by
     have h2:S.opOf i t = some o':=h'
     rw[ho] at h2;cases h2;rfl
    subst this
    have:=f8 ω;show t.AA.length < 8;omega,.inr ⟨o,ho,.bs b1⟩⟩
  exact⟨_,g,rfl,I',B'.mono (UJ c)⟩
 by_cases hb:o.kind = 3∨o.kind = 6∨o.kind = 7
 ·obtain⟨b,hb',hbm⟩:=EB (fb hb);rw[if_pos hb,hb'];simp only[z_o];by_cases h7:o.kind = 7
  ·obtain⟨k,hk',hkm⟩:=EB (fc h7);rw[if_pos h7,hk'];simp only[z_o];exact fin b k (T.rt b hbm) (T.rt k hkm)
  ·rw[if_neg h7];simp only[z_o];exact fin b t.k (T.rt b hbm) (λh=>absurd hgk.2 h)
 ·rw[if_neg hb];simp only[z_o];rw[if_neg ω];simp only[z_o];exact fin t.g t.k (λh=>absurd hgk.1 h) (λh=>absurd hgk.2 h)
theorem T7 (pc:Int):rk pc≤4:=by
 unfold rk;split<;>(try split)<;>(try split)<;>(try split)<;>(try split)<;>(try split)<;>(try split)<;>(try split)<;>decide
theorem Nb {n:Nat} (hc:c + 5 < 900000) (hn:5 < n) (I:IG P S g) (B:Bd c S) (h0:0≤i) (h1:i < S.th.length):∃S' g',S.thread n i = some S'∧IG P S' g'∧Bd (c + 5) S':=by
 obtain⟨t,ht,_⟩:=EB ⟨h0,h1⟩;have T:=I.ti i t ht;unfold Sim.thread;rw[ht];simp only[Tm,z_o];split
 ·rename_i hp;split
  ·exact⟨S,g,rfl,I,B.mono ω⟩
  ·obtain⟨p,hp',hpm⟩:=EB (l:=S.AE) (i:=i) ⟨h0,by rw[I.pl];exact h1⟩;rw[hp'];simp only[z_o];split
   ·rename_i hlt;obtain⟨o,ho',_⟩:=EB ⟨T.nx,hlt⟩;have ho:S.opOf i t = some o:=by unfold Sim.opOf;rw[hp'];exact ho'
    obtain⟨S',g',e1,e2,e3⟩:=Q8 ω I B ht ho hp;exact⟨S',g',e1,e2,e3.mono ω⟩
   ·exact⟨S,g,rfl,I,B.mono ω⟩
 ·rename_i hp;exact Ps 5 c { S with used:=false } g t ω (I.usd false) (B.usd false) ht (.inr (.inr (by have:=T7 t.pc;omega))) n hn
end
end Sm
end
