/- A part of the proof of the given row: the walk of the law and of all that it calls. Conditions: none. -/
import Derived.Test.YtoajhnhjmhdfdaaGreatVE
set_option linter.unusedVariables false
set_option linter.unusedSimpArgs false
section
namespace Sm
structure Ow (x:X) (o dst size:Int):Prop where
 d0:16≤dst
 k:(rv x.t (dst / 16)).kind = 2
 o:(rv x.t (dst / 16)).owner = o
 top:(rv x.t (dst / 16)).top = dst
 fit:dst + size≤16 * (dst / 16) + 16
theorem Ow.inn {x:X} {o dst size:Int} (O:Ow x o dst size):dst / 16 < x.t.length:=by
 by_cases c:dst / 16 < x.t.length
 ·exact c
 ·have:=O.k
  rw[rv_out (by have:=O.d0;omega) (by omega)] at this
  cases this
theorem Ow.wl {x:X} {o dst size:Int} (O:Ow x o dst size) (G:Geo x.w x.t x.B):dst + size≤x.w.length:=by
 have h1:=O.inn
 have h2:=G.len
 have h3:=O.fit
 omega
theorem Ow.stable {o p:Int} {x y:X} {dst size:Int} (O:Ow x o dst size) (K:Kp p x y) (hp:p≠o):Ow y o dst size∧∀z,dst≤z→z < dst + size→wv y.w z = wv x.w z:=by
 have h0:=O.d0
 obtain⟨⟨e1,e2,e3⟩,f⟩:=K.own (dst / 16) (by omega) O.k (by rw[O.o];exact hp.symm)
 refine⟨⟨O.d0,e1,by rw[e2];exact O.o,by rw[e3];exact O.top,O.fit⟩,λz h1 h2=>f z (by rw[O.top];exact h1) ?_⟩
 have:=O.fit
 omega
theorem sep {w:List Int} {t:List Rg} {B:Int→Prop} (G:Geo w t B) {a b k l:Int} (ha:B a) (hb:B b) (k0:0≤k) (k1:k < sz w a) (l0:0≤l) (l1:l < sz w b) (h:a + k = b + l):a = b∧k = l:=by
 rcases Int.lt_trichotomy a b with c | c | c
 ·have:=G.dj a b ha hb c;omega
 ·omega
 ·have:=G.dj b a hb ha c;omega
theorem Ow.sep {x:X} {o dst size z:Int} (O:Ow x o dst size) (G:Geo x.w x.t x.B) (h1:dst≤z) (h2:z < dst + size) {a k:Int} (ha:x.B a) (k0:0≤k) (k1:k < sz x.w a):a + k≠z:=by
 intro h
 obtain⟨g1,g2,g3,g4,g5,g6,g7,g8⟩:=G.inn ha
 have e1:=O.fit
 have e0:=O.d0
 have:a / 16 = dst / 16:=by omega
 rw[this,O.top] at g4
 omega
theorem cnt_congr {x y:X} (hm:y.m = x.m) (hs:∀a,0≤a→mv x.m a = true→sz y.w a = sz x.w a) (r:Int):cnt y r = cnt x r:=by
 unfold cnt
 congr 1
 funext k
 congr 1
 apply propext
 constructor
 ·rintro⟨a,h0,h1,h2,h3⟩
  rw[hm] at h1
  exact⟨a,h0,h1,h2,by rw[← hs a h0 h1];exact h3⟩
 ·rintro⟨a,h0,h1,h2,h3⟩
  exact⟨a,h0,by rw[hm];exact h1,h2,by rw[hs a h0 h1];exact h3⟩
theorem Sh.wr {x:X} {w' : List Int} (H:Sh x) (hl:w'.length = x.w.length) (hs:∀a,x.B a→wv w' (a + 1) = wv x.w (a + 1)) (hst:∀a,x.B a→¬ From x.t a→wv w' a = a)
  (hfw:∀a,x.B a→From x.t a→wv w' a≠a→x.L (wv w' a)∧¬ From x.t (wv w' a)∧wv x.w (wv w' a + 1) = wv x.w (a + 1))
  (hrf:∀a j,x.L a→0≤j→j < (shp x.w a).refs→wv w' (a + 2 + j)≠0→x.L (wv w' (a + 2 + j)))
  (hun:x.ph = 1→∀a j,x.L a→a < x.tm a→0≤j→j < (shp x.w a).refs→wv w' (a + 2 + j) = x.q (a + 2 + j)∨Lg x (x.q (a + 2 + j)))
  (haf:x.ph = 3→∀a,x.L a→From x.t a→wv w' a≠a):Sh { x with w:=w' }:=by
 have hz:∀a,x.B a→sz w' a = sz x.w a:=λa h=>sz_congr (hs a h)
 have hp:∀a,x.B a→shp w' a = shp x.w a:=λa h=>shp_congr (hs a h)
 have g:=H.g
 refine⟨⟨by rw[hl];exact g.len,g.ok,λa h=>?_,λa h=>?_,g.bs,λa b h h' hab=>?_⟩,H.lb,λa j h h0 h1 h2=>?_,hst,λa h hf hne=>?_,by rw[hl];exact H.ml,H.mt,H.ph,H.nf,H.lm,H.pl,H.fm,H.nb,haf,λh1=>?_⟩
 ·obtain⟨a1,a2,a3⟩:=g.at_ a h
  exact⟨a1,by rw[hz a h];exact a2,by rw[hs a h];exact a3⟩
 ·rw[hz a h];exact g.nx a h
 ·rw[hz a h];exact g.dj a b h h' hab
 ·exact hrf a j h h0 (by rw[← hp a (H.lb a h)];exact h1) h2
 ·obtain⟨b1,b2,b3⟩:=hfw a h hf hne
  refine⟨b1,b2,?_⟩
  show wv w' (wv w' a + 1) = wv w' (a + 1)
  rw[hs a h,hs _ (H.lb _ b1)];exact b3
 ·have M:=H.mp h1
  refine⟨M.sk,M.old,λY h2 h3=>M.mn Y h2 λa j ha ht hy j0 j1 hq=>h3 a j ha ht hy j0 (by show j < (shp w' a).refs;rw[hp a (H.lb a ha)];exact j1) hq,M.l0,λa j ha ht j0 j1=>M.ql a j ha ht j0 (by have j1:j < (shp w' a).refs:=j1;rw[← hp a (H.lb a ha)];exact j1),λa j ha ht j0 j1=>?_,λr r0 r1=>?_⟩
  ·exact hun h1 a j ha ht j0 (by have j1:j < (shp w' a).refs:=j1;rw[← hp a (H.lb a ha)];exact j1)
  ·show (rv x.t r).live = _
   rw[M.cov r r0 r1,cnt_congr (x:=x) (y:={ x with w:=w' }) rfl λa a0 ha=>hz a (H.lb a (H.mt a a0 ha).1)]
theorem priv {x:X} {o dst size z v:Int} (H:Sh x) (O:Ow x o dst size) (h1:dst≤z) (h2:z < dst + size):Sh { x with w:=seti x.w z v }∧Kp o x { x with w:=seti x.w z v }:=by
 have d0:=O.d0
 have wl:=O.wl H.g
 have e:∀u,0≤u→wv (seti x.w z v) u = if u = z then v else wv x.w u:=λu hu=>wv_set (by omega) (by omega) hu
 have hw:∀a k,x.B a→0≤k→k < sz x.w a→wv (seti x.w z v) (a + k) = wv x.w (a + k):=λa k h k0 k1=>by
  have:=(H.g.at_ a h).1
  rw[e _ (by omega),if_neg (O.sep H.g h1 h2 h k0 k1)]
 have hh:∀a,x.B a→wv (seti x.w z v) a = wv x.w a:=λa h=>by
  have:=hw a 0 h (by omega) (by have:=H.g.inn h;omega)
  rwa [Int.add_zero] at this
 have hs:∀a,x.B a→wv (seti x.w z v) (a + 1) = wv x.w (a + 1):=λa h=>hw a 1 h (by omega) (by have:=H.g.inn h;omega)
 have hr:∀a j,x.L a→0≤j→j < (shp x.w a).refs→wv (seti x.w z v) (a + 2 + j) = wv x.w (a + 2 + j):=λa j h j0 j1=>by
  have:=hw a (2 + j) (H.lb a h) (by omega) (by have:=sz_b x.w a;omega)
  rwa [← Int.add_assoc] at this
 refine⟨H.wr (by simp) hs (λa h hf=>by rw[hh a h];exact H.st a h hf) (λa h hf hne=>by rw[hh a h] at hne ⊢;exact H.fw a h hf hne) (λa j h j0 j1=>by rw[hr a j h j0 j1];exact H.rf a j h j0 j1) (λh1 a j h ht j0 j1=>by rw[hr a j h j0 j1];exact (H.mp h1).un a j h ht j0 j1) (λh3 a h hf=>by rw[hh a (H.lb a h)];exact H.af h3 a h hf),?_⟩
 refine⟨by simp,rfl,rfl,λ_ h=>h,λ_ h=>h,λ_ h _=>h,λ_ _=>Iff.rfl,λ_ _=>rfl,λr r0 hk ho=>⟨⟨hk,rfl,rfl⟩,λu hu hu2=>?_⟩,hs,λa u h hf u0 u1=>?_,λa h _=>hh a h,λ_ _ h=>h,rfl,λ_ a j h hf j0 j1 _=>⟨h,?_⟩⟩
 ·show wv (seti x.w z v) u = wv x.w u
  have hne:r≠dst / 16:=λc=>by subst c;exact ho O.o
  by_cases c:0≤u
  ·rw[e u c,if_neg]
   intro c2;subst c2
   have:=O.fit
   have t0:16 * r≤(rv x.t r).top:=by
    by_cases c3:r < x.t.length
    ·by_cases c4:1≤r
     ·exact (H.g.ok.row r c4 c3).t0
     ·have:r = 0:=by omega
      subst this;rw[H.g.ok.e] at hk;cases hk
    ·rw[rv_out r0 (by omega)] at hk;cases hk
   omega
  ·by_cases c3:r < x.t.length
   ·by_cases c4:1≤r
    ·have:=(H.g.ok.row r c4 c3).t0;omega
    ·have:r = 0:=by omega
     subst this;rw[H.g.ok.e] at hk;cases hk
   ·rw[rv_out r0 (by omega)] at hk;cases hk
 ·have:=hw a (u - a) (H.lb a h) (by omega) (by omega)
  rwa [show a + (u - a) = u from by omega] at this
 ·have j1:j < (shp (seti x.w z v) a).refs:=j1
  rw[shp_congr (hs a (H.lb a h))] at j1
  exact (hr a j h j0 j1).symm
theorem own_t0 {x:X} (H:Sh x) {r:Int} (r0:0≤r) (hk:(rv x.t r).kind≠0):1≤r∧r < x.t.length:=by
 by_cases c3:r < x.t.length
 ·by_cases c4:1≤r
  ·exact⟨c4,c3⟩
  ·have:r = 0:=by omega
   subst this;rw[H.g.ok.e] at hk;exact absurd rfl hk
 ·rw[rv_out r0 (by omega)] at hk;exact absurd rfl hk
theorem room {x:X} {t' : List Rg} {o size d:Int} (H:Sh x) (P:RoomP x.t o size t' d):Sh { x with t:=t' }∧Kp o x { x with t:=t' }∧Ow { x with t:=t' } o d size:=by
 have hf:∀a,From t' a↔From x.t a:=λa=>⟨λh=>⟨h.1,(P.frm (a / 16) (by have:=h.1;omega)).1 h.2⟩,λh=>⟨h.1,(P.frm (a / 16) (by have:=h.1;omega)).2 h.2⟩⟩
 have g:=H.g
 have p0:∀a,x.B a→0≤a / 16:=λa h=>by have:=g.inn h;omega
 have tmb:∀a,x.B a→X.tm { x with t:=t' } a = x.tm a:=λa h=>P.tams _ (p0 a h)
 have tm:∀a,x.L a→X.tm { x with t:=t' } a = x.tm a:=λa h=>tmb a (H.lb a h)
 have lg:∀v,Lg x v→Lg { x with t:=t' } v:=λv h=>h.imp id λh=>h.imp id λh=>h.imp id λh=>h.imp id λh=>⟨h.1,by have:=P.tams (v / 16) (by have:=h.1;omega);have h2:x.tm v≤v:=h.2;show (rv t' (v / 16)).tams≤v;rw[this];exact h2⟩
 refine⟨⟨⟨by rw[P.len];exact g.len,P.ok,λa h=>?_,λa h=>?_,λr r0 r1=>?_,g.dj⟩,H.lb,H.rf,λa h hn=>H.st a h λc=>hn ((hf a).2 c),λa h hfr hne=>?_,H.ml,λa a0 h=>?_,H.ph,λhp r r0 hk=>H.nf hp r r0 ((P.frm r r0).1 hk),λhp a h ht=>?_,λa h=>⟨(H.pl a h).1,λc=>(H.pl a h).2 ((hf a).1 c)⟩,λa h hfr=>H.fm a h ((hf a).1 hfr),λh1 a h ht=>H.nb h1 a h (by rw[← tmb a h];exact ht),λh3 a h hfr=>H.af h3 a h ((hf a).1 hfr),λhp=>?_⟩,?_,P.d0,P.dk,P.do_,P.dt,P.fit⟩
 ·rw[P.top _ (p0 a h)];exact g.at_ a h
 ·rw[P.top _ (p0 a h)];exact g.nx a h
 ·rw[P.top r (by omega)];exact g.bs r r0 (by rw[← P.len];exact r1)
 ·obtain⟨b1,b2,b3⟩:=H.fw a h ((hf a).1 hfr) hne
  exact⟨b1,λc=>b2 ((hf _).1 c),b3⟩
 ·obtain⟨b1,b2⟩:=H.mt a a0 h
  exact⟨b1,by rw[tm a b1];exact b2⟩
 ·rw[tm a h] at ht;exact H.lm hp a h ht
 ·have M:=H.mp hp
  refine⟨M.sk,M.old,λY h2 h3 a ha ht=>M.mn Y h2 (λa j ha ht hy j0 j1 hq=>h3 a j ha (by rw[tm a ha];exact ht) hy j0 j1 hq) a ha (by rw[tm a ha] at ht;exact ht),λa h=>⟨(M.l0 a h).1,by rw[tm a (M.l0 a h).1];exact (M.l0 a h).2.1,lg a (M.l0 a h).2.2⟩,λa j ha ht j0 j1 hq=>by
   obtain⟨q1,q2⟩:=M.ql a j ha (by rw[tm a ha] at ht;exact ht) j0 j1 hq
   exact⟨q1,by rw[tm _ q1];exact q2⟩,λa j ha ht j0 j1=>(M.un a j ha (by rw[tm a ha] at ht;exact ht) j0 j1).imp id (lg _),λr r0 r1=>?_⟩
  show (rv t' r).live = _
  rw[P.live r (by omega)]
  exact M.cov r r0 (by rw[← P.len];exact r1)
 ·refine⟨rfl,P.len,rfl,λ_ h=>h,λ_ h=>h,λ_ h _=>h,P.frm,P.tams,λr r0 hk ho=>⟨by rw[show rv ({ x with t:=t' }:X).t r = rv x.t r from P.oth r r0 hk ho];exact⟨hk,rfl,rfl⟩,λ_ _ _=>rfl⟩,λ_ _=>rfl,λ_ _ _ _ _ _=>rfl,λ_ _ _=>rfl,λ_=>lg,rfl,λ_ a j h _ _ _ _=>⟨h,rfl⟩⟩
def X.pub (x:X) (dst size:Int):X:={ x with t:=seti x.t (dst / 16) { rv x.t (dst / 16) with top:=dst + size },B:=λa=>x.B a∨a = dst,L:=λa=>x.L a∨a = dst }
theorem pub {x:X} {o dst size:Int} (H:Sh x) (O:Ow x o dst size) (hz:sz x.w dst = size) (h2:(shapeOf (wv x.w (dst + 1))).2 = true) (hh:wv x.w dst = dst)
  (hr:∀j,0≤j→j < (shp x.w dst).refs→wv x.w (dst + 2 + j)≠0→x.L (wv x.w (dst + 2 + j)))
  (hc:x.ph = 3→∀j,0≤j→j < (shp x.w dst).refs→¬ From x.t (wv x.w (dst + 2 + j))):Sh (x.pub dst size)∧Kp o x (x.pub dst size):=by
 have d0:=O.d0
 have inn:=O.inn
 have fit:=O.fit
 have s2:=sz_b x.w dst
 have g:=H.g
 have R:=g.ok.row (dst / 16) (by omega) inn
 have top:=O.top
 have e:∀r,0≤r→rv (x.pub dst size).t r = if r = dst / 16 then { rv x.t (dst / 16) with top:=dst + size } else rv x.t r:=λr r0=>rv_set (by omega) inn r0
 have ek:∀r,0≤r→(rv (x.pub dst size).t r).kind = (rv x.t r).kind:=λr r0=>by
  rw[e r r0];split
  ·subst r;rfl
  ·rfl
 have et:∀r,0≤r→(rv (x.pub dst size).t r).tams = (rv x.t r).tams:=λr r0=>by
  rw[e r r0];split
  ·subst r;rfl
  ·rfl
 have el:∀r,0≤r→(rv (x.pub dst size).t r).live = (rv x.t r).live:=λr r0=>by
  rw[e r r0];split
  ·subst r;rfl
  ·rfl
 have eo:∀r,0≤r→(rv (x.pub dst size).t r).owner = (rv x.t r).owner:=λr r0=>by
  rw[e r r0];split
  ·subst r;rfl
  ·rfl
 have ep:∀r,0≤r→(rv (x.pub dst size).t r).top = if r = dst / 16 then dst + size else (rv x.t r).top:=λr r0=>by
  rw[e r r0];split
  ·rfl
  ·rfl
 have hf:∀a,From (x.pub dst size).t a↔From x.t a:=λa=>⟨λh=>⟨h.1,by have:=h.1;have:=h.2;rw[ek _ (by omega)] at this;exact this⟩,λh=>⟨h.1,by have:=h.1;rw[ek _ (by omega)];exact h.2⟩⟩
 have nfd:¬ From x.t dst:=λc=>by have:=c.2;rw[O.k] at this;cases this
 have lt:x.tm dst≤dst:=by have:=R.s1;rw[top] at this;exact this
 have tm:∀a,0≤a→(x.pub dst size).tm a = x.tm a:=λa h=>et _ (by omega)
 have lg:∀v,Lg x v→Lg (x.pub dst size) v:=λv h=>h.imp id λh=>h.imp id λh=>h.imp id λh=>h.imp id λh=>⟨h.1,by rw[tm v h.1];exact h.2⟩
 have len:(x.pub dst size).t.length = x.t.length:=by simp[X.pub]
 have nb:∀a,x.B a→a / 16 = dst / 16→a + sz x.w a≤dst:=λa h c=>by
  have:=(g.at_ a h).2.1;rw[c,top] at this;exact this
 refine⟨⟨⟨by rw[len];exact g.len,?_,?_,?_,?_,?_⟩,?_,?_,?_,?_,H.ml,?_,H.ph,λhp r r0 hk=>H.nf hp r r0 (by rw[ek r r0] at hk;exact hk),?_,?_,?_,?_,?_,?_⟩,?_⟩
 ·refine TOk.set g.ok (by omega) inn ⟨R.k0,R.k1,?_,?_,R.s0,?_,R.l0,?_,λh=>?_,R.ow,R.o0,R.o1⟩ λs s0 s1 hne ho he=>hne (g.ok.own s (dst / 16) s0 s1 (by omega) inn (by rw[he];exact ho) he)
  ·show 16 * (dst / 16)≤dst + size;omega
  ·show dst + size≤_;omega
  ·have:=R.s1;show (rv x.t (dst / 16)).tams≤dst + size;omega
  ·have:=R.l1;show (rv x.t (dst / 16)).live≤dst + size - 16 * (dst / 16);omega
  ·exact absurd (O.k.symm.trans h) (by decide)
 ·rintro a (h | h)
  ·obtain⟨a1,a2,a3⟩:=g.at_ a h
   refine⟨a1,?_,a3⟩
   rw[ep _ (by omega)]
   show a + sz x.w a≤_
   split
   ·have:=nb a h (by assumption);omega
   ·exact a2
  ·subst h
   refine⟨d0,?_,h2⟩
   rw[ep _ (by omega),if_pos rfl]
   show a + sz x.w a≤_
   omega
 ·rintro a (h | h)
  ·have a1:=(g.at_ a h).1
   rw[ep _ (by omega)]
   show a + sz x.w a = _∨(x.B (a + sz x.w a)∨a + sz x.w a = dst)
   rcases g.nx a h with c | c
   ·split
    ·rename_i c2
     rw[c2,top] at c;exact .inr (.inr c)
    ·exact .inl c
   ·exact .inr (.inl c)
  ·subst h
   left
   rw[ep _ (by omega),if_pos rfl]
   show a + sz x.w a = _
   rw[hz]
 ·intro r r0 r1
  rw[len] at r1
  rw[ep r (by omega)]
  rcases g.bs r r0 r1 with c | c
  ·split
   ·rename_i c2
    rw[c2,top] at c;right;right;rw[c2];omega
   ·exact .inl c
  ·exact .inr (.inl c)
 ·rintro a b (h | h) (h' | h') hab
  ·exact g.dj a b h h' hab
  ·subst h'
   show a + sz x.w a≤b
   by_cases c:a / 16 = b / 16
   ·exact nb a h c
   ·have:=g.inn h;omega
  ·subst h
   show a + sz x.w a≤b
   by_cases c:b / 16 = a / 16
   ·have:=nb b h' c;have:=g.inn h';omega
   ·omega
  ·omega
 ·rintro a (h | h)
  ·exact .inl (H.lb a h)
  ·exact .inr h
 ·rintro a j (h | h) j0 j1 hne
  ·exact .inl (H.rf a j h j0 j1 hne)
  ·subst h;exact .inl (hr j j0 j1 hne)
 ·rintro a (h | h) hn
  ·exact H.st a h λc=>hn ((hf a).2 c)
  ·subst h;exact hh
 ·rintro a (h | h) hfr hne
  ·obtain⟨b1,b2,b3⟩:=H.fw a h ((hf a).1 hfr) hne
   exact⟨.inl b1,λc=>b2 ((hf _).1 c),b3⟩
  ·subst h;exact absurd ((hf a).1 hfr) nfd
 ·intro a a0 h
  obtain⟨b1,b2⟩:=H.mt a a0 h
  exact⟨.inl b1,by rw[tm a a0];exact b2⟩
 ·rintro hp a (h | h) ht
  ·rw[tm a (by have:=(g.at_ a (H.lb a h)).1;omega)] at ht
   exact H.lm hp a h ht
  ·subst h;rw[tm a (by omega)] at ht;omega
 ·intro a h
  exact⟨.inl (H.pl a h).1,λc=>(H.pl a h).2 ((hf a).1 c)⟩
 ·rintro a (h | h) hfr
  ·exact H.fm a h ((hf a).1 hfr)
  ·subst h;exact absurd ((hf a).1 hfr) nfd
 ·rintro h1 a (h | h) ht
  ·left;rw[tm a (by have:=(g.at_ a h).1;omega)] at ht;exact H.nb h1 a h ht
  ·exact .inr h
 ·rintro h3 a (h | h) hfr
  ·exact H.af h3 a h ((hf a).1 hfr)
  ·subst h;exact absurd ((hf a).1 hfr) nfd
 ·intro hp
  have M:=H.mp hp
  have back:∀a,(x.pub dst size).L a→a < (x.pub dst size).tm a→x.L a∧a < x.tm a:=by
   rintro a (h | h) ht
   ·rw[tm a (by have:=(g.at_ a (H.lb a h)).1;omega)] at ht;exact⟨h,ht⟩
   ·subst h;rw[tm a (by omega)] at ht;omega
  refine⟨λa h=>.inl (M.sk a h),λa h=>.inl (M.old a h),λY h2 h3 a ha ht=>?_,λa h=>⟨.inl (M.l0 a h).1,by rw[tm a (by have:=(g.at_ a (H.lb a (M.l0 a h).1)).1;omega)];exact (M.l0 a h).2.1,lg a (M.l0 a h).2.2⟩,λa j ha ht j0 j1 hq=>?_,λa j ha ht j0 j1=>(M.un a j (back a ha ht).1 (back a ha ht).2 j0 j1).imp id (lg _),λr r0 r1=>?_⟩
  ·exact M.mn Y h2 (λa j ha ht hy j0 j1 hq=>h3 a j (.inl ha) (by rw[tm a (by have:=(g.at_ a (H.lb a ha)).1;omega)];exact ht) hy j0 j1 hq) a (back a ha ht).1 (back a ha ht).2
  ·obtain⟨q1,q2⟩:=M.ql a j (back a ha ht).1 (back a ha ht).2 j0 j1 hq
   have q0:16≤x.q (a + 2 + j):=(g.at_ _ (H.lb _ q1)).1
   exact⟨.inl q1,by rw[show (x.pub dst size).tm ((x.pub dst size).q (a + 2 + j)) = x.tm (x.q (a + 2 + j)) from tm (x.q (a + 2 + j)) (by omega)];exact q2⟩
  ·rw[el r (by omega)]
   exact M.cov r r0 (by rw[← len];exact r1)
 ·refine⟨rfl,len,rfl,λ_ h=>.inl h,λ_ h=>.inl h,?_,λr r0=>by rw[ek r r0],et,λr r0 hk ho=>⟨⟨by rw[ek r r0];exact hk,eo r r0,?_⟩,λ_ _ _=>rfl⟩,λ_ _=>rfl,λ_ _ _ _ _ _=>rfl,λ_ _ _=>rfl,λ_=>lg,rfl,?_⟩
  ·rintro a (h | h) hfr
   ·exact h
   ·subst h;exact absurd ((hf a).1 hfr) nfd
  ·rw[ep r r0,if_neg];intro c;subst c;exact ho O.o
  ·rintro hp a j (h | h) hn j0 j1 hfr
   ·exact⟨h,rfl⟩
   ·subst h;exact absurd ((hf _).1 hfr) (hc hp j j0 j1)
end Sm
end
section
namespace Sm
theorem own_rng {x:X} (H:Sh x) {r z:Int} (r0:0≤r) (hk:(rv x.t r).kind = 2) (h1:(rv x.t r).top≤z) (h2:z < 16 * r + 16):16≤z∧z / 16 = r∧∀a k,x.B a→0≤k→k < sz x.w a→a + k≠z:=by
 obtain⟨c1,c2⟩:=own_t0 H r0 (by rw[hk];decide)
 have t0:=(H.g.ok.row r c1 c2).t0
 refine⟨by omega,by omega,λa k ha k0 k1 h=>?_⟩
 obtain⟨g1,g2,g3,g4,g5,g6,g7,g8⟩:=H.g.inn ha
 have:a / 16 = r:=by omega
 rw[this] at g4
 omega
theorem fwd {x:X} {o src dst:Int} (H:Sh x) (hs:x.L src) (hf:From x.t src) (hw:wv x.w src = src) (hd:x.L dst) (hn:¬ From x.t dst) (he:wv x.w (dst + 1) = wv x.w (src + 1)) (h3:x.ph≠3):Sh { x with w:=seti x.w src dst }∧Kp o x { x with w:=seti x.w src dst }:=by
 obtain⟨g1,g2,g3,g4,g5,g6,g7,g8⟩:=H.g.inn (H.lb _ hs)
 have e:∀u,0≤u→wv (seti x.w src dst) u = if u = src then dst else wv x.w u:=λu hu=>wv_set (by omega) (by omega) hu
 have hk:∀a k,x.B a→1≤k→k < sz x.w a→wv (seti x.w src dst) (a + k) = wv x.w (a + k):=λa k h k0 k1=>by
  have:=(H.g.at_ a h).1
  rw[e _ (by omega),if_neg]
  intro c
  have:=sep H.g h (H.lb _ hs) (k:=k) (l:=0) (by omega) k1 (by omega) (by omega) (by omega)
  omega
 have hz:∀a,x.B a→wv (seti x.w src dst) (a + 1) = wv x.w (a + 1):=λa h=>hk a 1 h (by omega) (by have:=H.g.inn h;omega)
 have hr:∀a j,x.L a→0≤j→j < (shp x.w a).refs→wv (seti x.w src dst) (a + 2 + j) = wv x.w (a + 2 + j):=λa j h j0 j1=>by
  have:=hk a (2 + j) (H.lb a h) (by omega) (by have:=sz_b x.w a;omega)
  rwa [← Int.add_assoc] at this
 have hh:∀a,x.B a→a≠src→wv (seti x.w src dst) a = wv x.w a:=λa h c=>by
  have:=(H.g.at_ a h).1
  rw[e _ (by omega),if_neg c]
 refine⟨H.wr (by simp) hz (λa h hn'=>?_) (λa h hfr hne=>?_) (λa j h j0 j1=>by rw[hr a j h j0 j1];exact H.rf a j h j0 j1) (λh1 a j h ht j0 j1=>by rw[hr a j h j0 j1];exact (H.mp h1).un a j h ht j0 j1) (λhp=>absurd hp h3),?_⟩
 ·by_cases c:a = src
  ·subst c;exact absurd hf hn'
  ·rw[hh a h c];exact H.st a h hn'
 ·by_cases c:a = src
  ·subst c
   rw[e _ (by omega),if_pos rfl]
   exact⟨hd,hn,he⟩
  ·rw[hh a h c] at hne ⊢;exact H.fw a h hfr hne
 ·refine⟨by simp,rfl,rfl,λ_ h=>h,λ_ h=>h,λ_ h _=>h,λ_ _=>Iff.rfl,λ_ _=>rfl,λr r0 hk2 ho=>⟨⟨hk2,rfl,rfl⟩,λu hu hu2=>?_⟩,hz,λa u h _ u0 u1=>?_,λa h hne=>?_,λ_ _ h=>h,rfl,λhp=>absurd hp h3⟩
  ·obtain⟨c1,_,c3⟩:=own_rng H r0 hk2 hu hu2
   show wv (seti x.w src dst) u = wv x.w u
   rw[e u (by omega),if_neg]
   intro c;exact c3 src 0 (H.lb _ hs) (by omega) (by omega) (by omega)
  ·have:=hk a (u - a) (H.lb a h) (by omega) (by omega)
   rwa [show a + (u - a) = u from by omega] at this
  ·refine hh a h λc=>?_
   subst c;exact hne hw
theorem field_ {x:X} {a k v:Int} (H:Sh x) (ha:x.L a) (k0:2≤k) (k1:k < sz x.w a) :
  (∀b,x.B b→wv (seti x.w (a + k) v) b = wv x.w b)∧(∀b,x.B b→wv (seti x.w (a + k) v) (b + 1) = wv x.w (b + 1))∧
  (∀b l,x.B b→0≤l→l < sz x.w b→wv (seti x.w (a + k) v) (b + l) = if b = a∧l = k then v else wv x.w (b + l))∧
  (∀r u:Int,0≤r→(rv x.t r).kind = 2→(rv x.t r).top≤u→u < 16 * r + 16→wv (seti x.w (a + k) v) u = wv x.w u):=by
 obtain⟨g1,g2,g3,g4,g5,g6,g7,g8⟩:=H.g.inn (H.lb _ ha)
 have e:∀u,0≤u→wv (seti x.w (a + k) v) u = if u = a + k then v else wv x.w u:=λu hu=>wv_set (by omega) (by omega) hu
 have hk:∀b l,x.B b→0≤l→l < sz x.w b→wv (seti x.w (a + k) v) (b + l) = if b = a∧l = k then v else wv x.w (b + l):=λb l hb l0 l1=>by
  have:=(H.g.at_ b hb).1
  rw[e _ (by omega)]
  by_cases c:b + l = a + k
  ·obtain⟨c1,c2⟩:=sep H.g hb (H.lb _ ha) l0 l1 (by omega) k1 c
   rw[if_pos c,if_pos ⟨c1,c2⟩]
  ·rw[if_neg c,if_neg (by rintro⟨rfl,rfl⟩;exact c rfl)]
 refine⟨λb hb=>?_,λb hb=>?_,hk,λr u r0 hk2 hu hu2=>?_⟩
 ·have:=hk b 0 hb (by omega) (by have:=H.g.inn hb;omega)
  rw[if_neg (by omega),Int.add_zero] at this;exact this
 ·have:=hk b 1 hb (by omega) (by have:=H.g.inn hb;omega)
  rw[if_neg (by omega)] at this;exact this
 ·obtain⟨c1,_,c3⟩:=own_rng H r0 hk2 hu hu2
  rw[e u (by omega),if_neg]
  intro c;exact c3 a k (H.lb _ ha) (by omega) (by omega) c.symm
theorem num {x:X} {o a k v:Int} (H:Sh x) (ha:x.L a) (hn:¬ From x.t a) (k0:2 + (shp x.w a).refs≤k) (k1:k < sz x.w a):Sh { x with w:=seti x.w (a + k) v }∧Kp o x { x with w:=seti x.w (a + k) v }:=by
 have s:=sz_b x.w a
 obtain⟨hh,hz,hk,ho⟩:=field_ (v:=v) H ha (by omega) k1
 have hr:∀b j,x.L b→0≤j→j < (shp x.w b).refs→wv (seti x.w (a + k) v) (b + 2 + j) = wv x.w (b + 2 + j):=λb j h j0 j1=>by
  have:=hk b (2 + j) (H.lb b h) (by omega) (by have:=sz_b x.w b;omega)
  rw[← Int.add_assoc] at this
  rw[this,if_neg]
  rintro⟨rfl,c⟩;omega
 refine⟨H.wr (by simp) hz (λb h hf=>by rw[hh b h];exact H.st b h hf) (λb h hf hne=>by rw[hh b h] at hne ⊢;exact H.fw b h hf hne) (λb j h j0 j1=>by rw[hr b j h j0 j1];exact H.rf b j h j0 j1) (λh1 b j h ht j0 j1=>by rw[hr b j h j0 j1];exact (H.mp h1).un b j h ht j0 j1) (λhp b h hf=>by rw[hh b (H.lb b h)];exact H.af hp b h hf),?_⟩
 refine⟨by simp,rfl,rfl,λ_ h=>h,λ_ h=>h,λ_ h _=>h,λ_ _=>Iff.rfl,λ_ _=>rfl,λr r0 hk2 _=>⟨⟨hk2,rfl,rfl⟩,λu hu hu2=>ho r u r0 hk2 hu hu2⟩,hz,λb u h hf u0 u1=>?_,λb h _=>hh b h,λ_ _ h=>h,rfl,λ_ b j h hf j0 j1 _=>⟨h,?_⟩⟩
 ·have:=hk b (u - b) (H.lb b h) (by omega) (by omega)
  rw[show b + (u - b) = u from by omega,if_neg] at this
  ·exact this
  ·rintro⟨rfl,_⟩;exact hn hf
 ·have j1:j < (shp (seti x.w (a + k) v) b).refs:=j1
  rw[shp_congr (hz b (H.lb b h))] at j1
  exact (hr b j h j0 j1).symm
theorem ref {x:X} {o a j v:Int} (H:Sh x) (ha:x.L a) (hn:¬ From x.t a) (j0:0≤j) (j1:j < (shp x.w a).refs) (hv:v≠0→x.L v) (h1:x.ph = 1→a < x.tm a→Lg x (x.q (a + 2 + j))) (h3:x.ph = 3→¬ From x.t v) :
  Sh { x with w:=seti x.w (a + 2 + j) v }∧Kp o x { x with w:=seti x.w (a + 2 + j) v }:=by
 have s:=sz_b x.w a
 rw[Int.add_assoc]
 obtain⟨hh,hz,hk,ho⟩:=field_ (k:=2 + j) (v:=v) H ha (by omega) (by omega)
 have hr:∀b i,x.L b→0≤i→i < (shp x.w b).refs→wv (seti x.w (a + (2 + j)) v) (b + 2 + i) = if b = a∧i = j then v else wv x.w (b + 2 + i):=λb i h i0 i1=>by
  have:=hk b (2 + i) (H.lb b h) (by omega) (by have:=sz_b x.w b;omega)
  rw[show b + (2 + i) = b + 2 + i from by omega] at this
  rw[this]
  by_cases c:b = a∧i = j
  ·rw[if_pos c,if_pos ⟨c.1,by omega⟩]
  ·rw[if_neg c,if_neg (λc'=>c ⟨c'.1,by omega⟩)]
 refine⟨H.wr (by simp) hz (λb h hf=>by rw[hh b h];exact H.st b h hf) (λb h hf hne=>by rw[hh b h] at hne ⊢;exact H.fw b h hf hne) (λb i h i0 i1=>?_) (λhp b i h ht i0 i1=>?_) (λhp b h hf=>by rw[hh b (H.lb b h)];exact H.af hp b h hf),?_⟩
 ·rw[hr b i h i0 i1]
  split
  ·exact hv
  ·exact H.rf b i h i0 i1
 ·rw[hr b i h i0 i1]
  split
  ·rename_i c
   obtain⟨rfl,rfl⟩:=c
   exact .inr (h1 hp ht)
  ·exact (H.mp hp).un b i h ht i0 i1
 ·refine⟨by simp,rfl,rfl,λ_ h=>h,λ_ h=>h,λ_ h _=>h,λ_ _=>Iff.rfl,λ_ _=>rfl,λr r0 hk2 _=>⟨⟨hk2,rfl,rfl⟩,λu hu hu2=>ho r u r0 hk2 hu hu2⟩,hz,λb u h hf u0 u1=>?_,λb h _=>hh b h,λ_ _ h=>h,rfl,λhp b i h hf i0 i1 hfr=>⟨h,?_⟩⟩
  ·have:=hk b (u - b) (H.lb b h) (by omega) (by omega)
   rw[show b + (u - b) = u from by omega,if_neg] at this
   ·exact this
   ·rintro⟨rfl,_⟩;exact hn hf
  ·have i1:i < (shp (seti x.w (a + (2 + j)) v) b).refs:=i1
   rw[shp_congr (hz b (H.lb b h))] at i1
   have e:=hr b i h i0 i1
   show wv x.w (b + 2 + i) = wv (seti x.w (a + (2 + j)) v) (b + 2 + i)
   have hfr:From x.t (wv (seti x.w (a + (2 + j)) v) (b + 2 + i)):=hfr
   rw[e] at hfr ⊢
   split
   ·rename_i c
    rw[if_pos c] at hfr;exact absurd hfr (h3 hp)
   ·rfl
theorem logv {x:X} {o:Int} {l:List Int} (H:Sh x) (hl:∀v∈l,x.L v) (hi:∀v∈x.old,v∈l):Sh { x with old:=l }∧Kp o x { x with old:=l }:=by
 have lg:∀v,Lg x v→Lg { x with old:=l } v:=λv h=>by
  rcases h with h | h | h | h | h
  ·exact .inl h
  ·exact .inr (.inl h)
  ·exact .inr (.inr (.inl h))
  ·exact .inr (.inr (.inr (.inl (hi v h))))
  ·exact .inr (.inr (.inr (.inr h)))
 refine⟨⟨H.g,H.lb,H.rf,H.st,H.fw,H.ml,H.mt,H.ph,H.nf,H.lm,H.pl,H.fm,H.nb,H.af,λhp=>?_⟩,?_⟩
 ·have M:=H.mp hp
  exact⟨M.sk,hl,M.mn,λa h=>⟨(M.l0 a h).1,(M.l0 a h).2.1,lg _ (M.l0 a h).2.2⟩,M.ql,λa j h ht j0 j1=>(M.un a j h ht j0 j1).imp id (lg _),M.cov⟩
 ·exact⟨rfl,rfl,rfl,λ_ h=>h,λ_ h=>h,λ_ h _=>h,λ_ _=>Iff.rfl,λ_ _=>rfl,λ_ _ h _=>⟨⟨h,rfl,rfl⟩,λ_ _ _=>rfl⟩,λ_ _=>rfl,λ_ _ _ _ _ _=>rfl,λ_ _ _=>rfl,λ_=>lg,rfl,λ_ _ _ h _ _ _ _=>⟨h,rfl⟩⟩
theorem pinv {x:X} {o:Int} {l:List Int} (H:Sh x) (hl:∀v∈l,x.L v∧¬ From x.t v):Sh { x with pins:=l }∧Kp o x { x with pins:=l }:=by
 refine⟨⟨H.g,H.lb,H.rf,H.st,H.fw,H.ml,H.mt,H.ph,H.nf,H.lm,hl,H.fm,H.nb,H.af,λhp=>?_⟩,?_⟩
 ·have M:=H.mp hp
  exact⟨M.sk,M.old,M.mn,M.l0,M.ql,M.un,M.cov⟩
 ·exact⟨rfl,rfl,rfl,λ_ h=>h,λ_ h=>h,λ_ h _=>h,λ_ _=>Iff.rfl,λ_ _=>rfl,λ_ _ h _=>⟨⟨h,rfl,rfl⟩,λ_ _ _=>rfl⟩,λ_ _=>rfl,λ_ _ _ _ _ _=>rfl,λ_ _ _=>rfl,λ_ _ h=>h,rfl,λ_ _ _ h _ _ _ _=>⟨h,rfl⟩⟩
end Sm
end
section
namespace Sm
variable {P:List (List Op)}
structure Bs (x:X) (o:Op) (t:Thr) (pc:Int):Prop where
 p:1≤pc∧pc≤16∧pc≠13
 k:2≤o.kind∧o.kind≤11∧o.kind≠8∧o.kind≠9
 h:t.h≠0→x.L t.h
 g:t.g≠0→x.L t.g
 kk:t.k≠0→x.L t.k
 h0:o.kind≠6→t.h≠0
 nh:2≤pc→¬ From x.t t.h
 ng:3≤pc→¬ From x.t t.g
 nk:4≤pc→¬ From x.t t.k
 s:5≤pc→t.sh = shp x.w t.h∧t.h≠0
 f:5≤pc→0≤o.f∧(o.kind = 4∨o.kind = 5→o.f < t.sh.nums)∧(o.kind≠4→o.kind≠5→o.f < t.sh.refs)
 k5:pc = 5∨pc = 11∨pc = 12→o.kind = 2
 k6:pc = 6∨pc = 7→o.kind = 3
 k8:pc = 8→o.kind = 4
 k9:pc = 9→o.kind = 5
 k10:pc = 10∨pc = 14∨pc = 15∨pc = 16→o.kind = 7
 l7:pc = 7→x.ph = 1→t.h < x.tm t.h→Lg x (x.q (t.h + 2 + o.f))
 l14:pc = 14→x.ph = 1→Lg x t.u
 v:11≤pc→pc≠14→t.v≠0→x.L t.v
 nv:pc = 12∨pc = 16→¬ From x.t t.v
 p15:pc = 15∨pc = 16→x.ph≠1
structure Cp (x:X) (o src dst size i word pc:Int):Prop where
 p:20≤pc∧pc≤24
 ls:x.L src
 fs:From x.t src
 p2:x.ph = 2
 sz:21≤pc→size = sz x.w src
 ow:21≤pc→Ow x o dst size
 i0:21≤pc→1≤i∧i≤size
 i1:pc = 21∨pc = 22→i < size
 cp:21≤pc→∀j,1≤j→j < i→wv x.w (dst + j) = wv x.w (src + j)
 wd:pc = 22→word = wv x.w (src + i)
 dn:23≤pc→i = size
 hd:pc = 24→wv x.w dst = dst
structure Mg (x:X) (o:Int) (op:Op) (t:Thr):Prop where
 p:30≤t.pc∧t.pc≤33
 k:op.kind = 1
 sh:shapeOk op.sh = true
 sz:31≤t.pc→t.size = shapeSize op.sh
 ow:31≤t.pc→Ow x o t.dst t.size
 i2:31≤t.pc→t.pc≤32→t.i = 2
 i3:t.pc = 33→2≤t.i∧t.i < t.size
 hd:32≤t.pc→wv x.w t.dst = t.dst
 sp:33≤t.pc→wv x.w (t.dst + 1) = shapeWord op.sh
 z:33≤t.pc→∀j,2≤j→j < t.i→wv x.w (t.dst + j) = 0
def retOk (r:Int):Prop:=r = 1∨r = 2∨r = 3∨r = 11∨r = 15
inductive Run (x:X) (i:Int) (o:Op) (t:Thr):Prop
 | bs (h:Bs x o t t.pc)
 | cp (h:Bs x o t t.ret) (r:retOk t.ret) (e:l8Held t t.ret = t.src) (c:Cp x i t.src t.dst t.size t.i t.word t.pc)
 | mg (h:Mg x i o t)
structure TI (x:X) (i:Int) (po:Option Op) (t:Thr):Prop where
 rt:∀a∈t.roots,a≠0→x.L a
 rl:t.roots.length≤8
 nx:0≤t.next
 r8:∀o,po = some o→t.pc≠0→o.kind = 1∨o.kind = 2→t.roots.length < 8
 run:(t.pc = 0∧t.g = 0∧t.k = 0)∨∃o,po = some o∧Run x i o t
theorem Kp.shp {o:Int} {x y:X} (K:Kp o x y) {a:Int} (h:x.B a):shp y.w a = shp x.w a:=shp_congr (K.sh a h)
theorem Kp.sz {o:Int} {x y:X} (K:Kp o x y) {a:Int} (h:x.B a):sz y.w a = sz x.w a:=sz_congr (K.sh a h)
theorem Kp.tma {o:Int} {x y:X} (K:Kp o x y) {a:Int} (h:0≤a):y.tm a = x.tm a:=K.tm (a / 16) (by omega)
theorem Bs.stable {p:Int} {x y:X} {o:Op} {t:Thr} {pc:Int} (H:Sh x) (K:Kp p x y) (b:Bs x o t pc):Bs y o t pc:=by
 refine⟨b.p,b.k,λh=>K.l _ (b.h h),λh=>K.l _ (b.g h),λh=>K.l _ (b.kk h),b.h0,λh c=>b.nh h (K.frm.1 c),λh c=>b.ng h (K.frm.1 c),λh c=>b.nk h (K.frm.1 c),λh=>?_,b.f,b.k5,b.k6,b.k8,b.k9,b.k10,λh hp ht=>?_,λh hp=>?_,λh h' h0=>K.l _ (b.v h h' h0),λh c=>b.nv h (K.frm.1 c),λh=>by rw[K.ph];exact b.p15 h⟩
 ·obtain⟨h1,h2⟩:=b.s h
  exact⟨by rw[K.shp (H.lb _ (b.h h2))];exact h1,h2⟩
 ·have hp' : x.ph = 1:=by rw[← K.ph];exact hp
  have h2:=(b.s (by omega)).2
  have hL:=b.h h2
  rw[K.tma (by have:=H.g.inn (H.lb _ hL);omega)] at ht
  rw[K.q]
  exact K.lg hp' _ (b.l7 h hp' ht)
 ·have hp' : x.ph = 1:=by rw[← K.ph];exact hp
  exact K.lg hp' _ (b.l14 h hp')
theorem Cp.stable {p o:Int} {x y:X} {src dst size i word pc:Int} (H:Sh x) (K:Kp p x y) (hp:p≠o) (c:Cp x o src dst size i word pc):Cp y o src dst size i word pc:=by
 refine⟨c.p,K.l _ c.ls,K.frm.2 c.fs,by rw[K.ph];exact c.p2,λh=>by rw[K.sz (H.lb _ c.ls)];exact c.sz h,λh=>((c.ow h).stable K hp).1,c.i0,c.i1,λh j j0 j1=>?_,λh=>?_,c.dn,λh=>?_⟩
 ·have h1:=c.i0 h
  rw[((c.ow h).stable K hp).2 (dst + j) (by omega) (by omega),K.bd src (src + j) c.ls c.fs (by omega) (by have:=c.sz h;omega)]
  exact c.cp h j j0 j1
 ·have h1:=c.i0 (by omega)
  have h2:=c.i1 (.inr h)
  rw[K.bd src (src + i) c.ls c.fs (by omega) (by have:=c.sz (by omega);omega)]
  exact c.wd h
 ·have h1:=c.i0 (by omega)
  rw[((c.ow (by omega)).stable K hp).2 dst (by omega) (by omega)]
  exact c.hd h
theorem Mg.stable {p o:Int} {x y:X} {op:Op} {t:Thr} (K:Kp p x y) (hp:p≠o) (c:Mg x o op t):Mg y o op t:=by
 have h2:31≤t.pc→2≤t.size:=λh=>by
  rw[c.sz h]
  have:=c.sh
  rw[size_b (by simpa [shapeOk,and_assoc] using this)]
  simp only[shapeOk,z_b,z_d] at this
  omega
 refine⟨c.p,c.k,c.sh,c.sz,λh=>((c.ow h).stable K hp).1,c.i2,c.i3,λh=>?_,λh=>?_,λh j j0 j1=>?_⟩
 ·rw[((c.ow (by omega)).stable K hp).2 t.dst (by omega) (by have:=h2 (by omega);omega)];exact c.hd h
 ·rw[((c.ow (by omega)).stable K hp).2 (t.dst + 1) (by omega) (by have:=h2 (by omega);omega)];exact c.sp h
 ·have:=c.i3 (by have:=c.p;omega)
  rw[((c.ow (by omega)).stable K hp).2 (t.dst + j) (by omega) (by omega)];exact c.z h j j0 j1
theorem TI.stable {p i:Int} {x y:X} {po:Option Op} {t:Thr} (H:Sh x) (K:Kp p x y) (hp:p≠i) (T:TI x i po t):TI y i po t:=by
 refine⟨λa h h0=>K.l a (T.rt a h h0),T.rl,T.nx,T.r8,?_⟩
 rcases T.run with h | ⟨o,h,r⟩
 ·exact .inl h
 ·refine .inr ⟨o,h,?_⟩
  cases r with
  | bs b=>exact .bs (b.stable H K)
  | cp b r e c=>exact .cp (b.stable H K) r e (c.stable H K hp)
  | mg m=>exact .mg (m.stable K hp)
structure C1 (x:X) (c:Col):Prop where
 pc:c.pc = 1∨c.pc = 2
 p2:c.pc = 2→mv x.m c.p = true∧0≤c.p∧c.sh = shp x.w c.p∧0≤c.i∧c.i < c.sh.refs
 sc:∀a j,0≤a→mv x.m a = true→0≤j→j < (shp x.w a).refs→(c.pc = 2∧a = c.p∧c.i≤j)∨Lg x (x.q (a + 2 + j))
structure C2 (x:X) (n:Int) (c:Col):Prop where
 r0:1≤c.r
 r1:c.r≤x.t.length
 p0:16 * c.r≤c.p
 p1:c.p≤16 * c.r + 16
 wk:∀a,x.L a→From x.t a→a < c.p→wv x.w a≠a∨(c.pc≠5∧a = c.src)
 pc:c.pc = 5∨Cp x n c.src c.dst c.size c.i c.word c.pc
def lim (x:X) (r:Int):Int:=16 * r + (rv x.t r).live
structure C3 (x:X) (c:Col):Prop where
 pc:6≤c.pc∧c.pc≤9
 r0:1≤c.r
 r1:c.r≤x.t.length
 p0:16 * c.r≤c.p
 at_:c.r < x.t.length→c.p < lim x c.r→x.B c.p
 f:7≤c.pc→x.L c.f∧¬ From x.t c.f∧c.sh = shp x.w c.f∧0≤c.i∧c.i < c.sh.refs∧c.f < c.p
 v:8≤c.pc→x.L c.v∧From x.t c.v
 w:c.pc = 9→c.word = wv x.w c.v
 u:8≤c.pc→From x.t (wv x.w (c.f + 2 + c.i))→wv x.w (c.f + 2 + c.i) = c.v
 cl:∀a j,x.L a→¬ From x.t a→0≤j→j < (shp x.w a).refs→From x.t (wv x.w (a + 2 + j))→(c.p≤a∧a < lim x (a / 16))∨(7≤c.pc∧a = c.f∧c.i≤j)
def Wt (x:X) (want:Int):Prop:=(x.ph = 0∧want = 1)∨(x.ph = 1∧want = 2)∨(x.ph = 2∧want = 3∧∀a,x.L a→From x.t a→wv x.w a≠a)∨
 (x.ph = 3∧want = 0∧∀a j,x.L a→¬ From x.t a→0≤j→j < (shp x.w a).refs→¬ From x.t (wv x.w (a + 2 + j)))
theorem C1.stable {p:Int} {x y:X} {c:Col} (H:Sh x) (K:Kp p x y) (hm:y.m = x.m) (h1:x.ph = 1) (C:C1 x c):C1 y c:=by
 have hb:∀a,0≤a→mv x.m a = true→shp y.w a = shp x.w a:=λa a0 h=>K.shp (H.lb _ (H.mt a a0 h).1)
 refine⟨C.pc,λh=>?_,λa j a0 h j0 j1=>?_⟩
 ·obtain⟨h2,h3,h4,h5⟩:=C.p2 h
  exact⟨by rw[hm];exact h2,h3,by rw[hb _ h3 h2];exact h4,h5⟩
 ·rw[hm] at h
  rw[hb a a0 h] at j1
  rcases C.sc a j a0 h j0 j1 with d | d
  ·exact .inl d
  ·rw[K.q];exact .inr (K.lg h1 _ d)
theorem C2.stable {p n:Int} {x y:X} {c:Col} (H:Sh x) (K:Kp p x y) (hp:p≠n) (C:C2 x n c):C2 y n c:=by
 refine⟨C.r0,by rw[K.tl];exact C.r1,C.p0,C.p1,λa h hf hl=>?_,C.pc.imp id λd=>d.stable H K hp⟩
 have hL:=K.lf a h hf
 rcases C.wk a hL (K.frm.1 hf) hl with d | d
 ·left;rw[K.fwd a (H.lb _ hL) d];exact d
 ·exact .inr d
theorem C3.stable {p:Int} {x y:X} {c:Col} (H:Sh x) (K:Kp p x y) (hl:∀r:Int,0≤r→(rv y.t r).live = (rv x.t r).live) (h3:x.ph = 3) (C:C3 x c):C3 y c:=by
 have el:∀r,0≤r→lim y r = lim x r:=λr r0=>by unfold lim;rw[hl r r0]
 refine⟨C.pc,C.r0,by rw[K.tl];exact C.r1,C.p0,λh h'=>K.b _ (C.at_ (by rw[← K.tl];exact h) (by rw[el _ (by have:=C.r0;omega)] at h';exact h')),λh=>?_,λh=>?_,λh=>?_,λh hf=>?_,λa j h hn j0 j1 hf=>?_⟩
 ·obtain⟨f1,f2,f3,f4⟩:=C.f h
  exact⟨K.l _ f1,λc=>f2 (K.frm.1 c),by rw[K.shp (H.lb _ f1)];exact f3,f4⟩
 ·exact⟨K.l _ (C.v h).1,K.frm.2 (C.v h).2⟩
 ·obtain⟨v1,v2⟩:=C.v (by omega)
  rw[K.fwd _ (H.lb _ v1) (H.af h3 _ v1 v2)];exact C.w h
 ·obtain⟨f1,f2,f3,f4,f5,_⟩:=C.f (by omega)
  obtain⟨_,g2⟩:=K.cl h3 c.f c.i (K.l _ f1) (λc=>f2 (K.frm.1 c)) f4 (by rw[K.shp (H.lb _ f1),← f3];exact f5) hf
  rw[← g2] at hf ⊢
  exact C.u h (K.frm.1 hf)
 ·obtain⟨g1,g2⟩:=K.cl h3 a j h hn j0 j1 hf
  rw[K.shp (H.lb _ g1)] at j1
  rw[← g2] at hf
  rw[el _ (by have:=H.g.inn (H.lb _ g1);omega)]
  exact C.cl a j g1 (λc=>hn (K.frm.2 c)) j0 j1 (K.frm.1 hf)
theorem Wt.stable {p want:Int} {x y:X} (H:Sh x) (K:Kp p x y) (W:Wt x want):Wt y want:=by
 rcases W with ⟨h,h'⟩ | ⟨h,h'⟩ | ⟨h,h',h2⟩ | ⟨h,h',h2⟩
 ·exact .inl ⟨by rw[K.ph];exact h,h'⟩
 ·exact .inr (.inl ⟨by rw[K.ph];exact h,h'⟩)
 ·refine .inr (.inr (.inl ⟨by rw[K.ph];exact h,h',λa ha hf=>?_⟩))
  have hL:=K.lf a ha hf
  have:=h2 a hL (K.frm.1 hf)
  rw[K.fwd a (H.lb _ hL) this];exact this
 ·refine .inr (.inr (.inr ⟨by rw[K.ph];exact h,h',λa j ha hn j0 j1 hf=>?_⟩))
  obtain⟨g1,g2⟩:=K.cl h a j ha hn j0 j1 hf
  rw[K.shp (H.lb _ g1)] at j1
  rw[← g2] at hf
  exact h2 a j g1 (λc=>hn (K.frm.2 c)) j0 j1 (K.frm.1 hf)
structure Gh where
 B:Int→Prop
 L:Int→Prop
 q:Int→Int
 r0:Int→Prop
@[reducible] def xof (S:Sim) (g:Gh):X:=⟨S.words,S.table,S.marks,S.phase,S.col.stack,S.old,S.pins,g.B,g.L,g.q,g.r0⟩
structure Bd (c:Nat) (S:Sim):Prop where
 ev:S.ev.length≤c
 old:S.old.length≤c
 cy:0≤S.cycles∧S.cycles≤c
 fu:0≤S.fulls∧S.fulls≤c
 st:S.col.stack.length + S.old.length + 5 * S.marks.countP (λb=>!b) + (if S.col.pc = 2 then (S.col.sh.refs - S.col.i).toNat else 0)≤3000 + c
 pn:S.pins.length≤8
structure IG (P:List (List Op)) (S:Sim) (g:Gh):Prop where
 pg:S.progs = P
 sh:Sh (xof S g)
 n0:1≤S.th.length
 n1:S.th.length≤3
 pl:S.progs.length = S.th.length
 pp:∀p∈S.progs,p.length≤40
 ti:∀i t,idx S.th i = some t→TI (xof S g) i (S.opOf i t) t
 c1:S.phase = 1→C1 (xof S g) S.col
 c2:S.phase = 2→C2 (xof S g) S.th.length S.col
 c3:S.phase = 3→C3 (xof S g) S.col
 wt:S.stop = true→S.full = false→Wt (xof S g) S.col.want
 rs:0≤S.c.reserve∧S.c.reserve≤100
theorem idx_set {α:Type} {l:List α} {i j:Int} {v u:α} (h:idx (seti l i v) j = some u) (hi:0≤i):(j = i∧u = v)∨(j≠i∧idx l j = some u):=by
 unfold idx seti at h
 split at h
 ·rw[List.getElem?_set] at h
  split at h
  ·split at h
   ·left;exact⟨by omega,by simpa using h.symm⟩
   ·cases h
  ·right;refine⟨λc=>by subst c;simp at *,?_⟩
   unfold idx;rw[if_pos (by assumption)];exact h
 ·cases h
theorem IG.step {S S' : Sim} {g g' : Gh} {i:Int} {t t' : Thr} (I:IG P S g) (ht:idx S.th i = some t) (hth:S'.th = seti S.th i t') (hsh:Sh (xof S' g')) (K:Kp i (xof S g) (xof S' g')) (hc:S'.col = S.col) (hm:S'.marks = S.marks)
  (hlv:∀r:Int,0≤r→(rv S'.table r).live = (rv S.table r).live) (hpc:(S'.progs,S'.c) = (S.progs,S.c)) (hT:TI (xof S' g') i (S'.opOf i t') t') (hst:S'.stop = true→S'.full = false→S.stop = true∧S.full = false):IG P S' g':=by
 have hpg:S'.progs = S.progs:=congrArg Prod.fst hpc
 have hcc:S'.c = S.c:=congrArg Prod.snd hpc
 obtain⟨i0,i1,_⟩:=gv_idx t ht
 have hph:S'.phase = S.phase:=K.ph
 have hin:i≠S.th.length:=by omega
 refine⟨by rw[hpg];exact I.pg,hsh,by rw[hth,seti_len];exact I.n0,by rw[hth,seti_len];exact I.n1,by rw[hth,seti_len,hpg];exact I.pl,by rw[hpg];exact I.pp,λj u hu=>?_,λh=>?_,λh=>?_,λh=>?_,λh h'=>?_,by rw[hcc];exact I.rs⟩
 ·rw[hth] at hu
  rcases idx_set hu i0 with ⟨rfl,rfl⟩ | ⟨hne,hu⟩
  ·exact hT
  ·have:S'.opOf j u = S.opOf j u:=by unfold Sim.opOf;rw[hpg]
   rw[this]
   exact (I.ti j u hu).stable I.sh K hne.symm
 ·rw[hc];rw[hph] at h
  exact (I.c1 h).stable I.sh K hm h
 ·rw[hc,hth,seti_len];rw[hph] at h
  exact (I.c2 h).stable I.sh K hin
 ·rw[hc];rw[hph] at h
  exact (I.c3 h).stable I.sh K hlv h
 ·rw[hc]
  obtain⟨h1,h2⟩:=hst h h'
  exact (I.wt h1 h2).stable I.sh K
end Sm
end
section
namespace Sm
variable {P:List (List Op)}
theorem seti_seti {α:Type} {l:List α} {i:Int} {a b:α}:seti (seti l i a) i b = seti l i b:=by simp[seti]
theorem idx_seti {α:Type} {l:List α} {i:Int} {a u:α} (h:idx l i = some u):idx (seti l i a) i = some a:=by
 obtain⟨h0,h1,_⟩:=gv_idx u h
 unfold idx seti
 rw[if_pos h0,List.getElem?_set_self (by omega)]
theorem sz_of {c:Nat} {S:Sim} (B:Bd c S) (hc:c < 900000) (h:∀t∈S.th,t.roots.length < 1000000):S.sz = true:=by
 have h1:=B.ev
 have h2:=B.old
 have h3:=B.st
 have h4:=B.pn
 simp only[Sim.sz,z_b,z_d,List.all_eq_true]
 exact⟨⟨⟨⟨by omega,by omega⟩,by omega⟩,by omega⟩,h⟩
theorem mem_idx {α:Type} {l:List α} {t:α} (h:t∈l):∃i:Int,0≤i∧i < l.length∧idx l i = some t:=by
 obtain⟨n,hn,rfl⟩:=List.getElem_of_mem h
 refine⟨n,by omega,by omega,?_⟩
 unfold idx;rw[if_pos (by omega)];simp[hn]
theorem IG.roots {S:Sim} {g:Gh} (I:IG P S g):∀t∈S.th,t.roots.length≤8:=λt h=>by
 obtain⟨i,_,_,hi⟩:=mem_idx h
 exact (I.ti i t hi).rl
theorem IG.szok {c:Nat} {S S1:Sim} {g:Gh} (I:IG P S g) (hth:S1.th = S.th) (B:Bd c S1) (hc:c < 900000):S1.sz = true:=
 sz_of B hc λt h=>by have:=I.roots t (hth▸h);omega
theorem IG.next {S:Sim} {g:Gh} {i:Int} {t:Thr} {o:Op} (I:IG P S g) (ht:idx S.th i = some t) (ho:S.opOf i t = some o):0≤t.next∧t.next < 40:=by
 refine⟨(I.ti i t ht).nx,?_⟩
 unfold Sim.opOf at ho
 split at ho
 ·rename_i p hp
  obtain⟨_,h1,_⟩:=gv_idx default ho
  have:p∈S.progs:=by
   unfold idx at hp
   split at hp
   ·exact List.mem_of_getElem? hp
   ·cases hp
  have:=I.pp p this
  omega
 ·cases ho
structure Same (S S1:Sim):Prop where
 th:S1.th = S.th
 col:S1.col = S.col
 marks:S1.marks = S.marks
 pc_:(S1.progs,S1.c) = (S.progs,S.c)
 stop:S1.stop = S.stop
 full:S1.full = S.full
 live:∀r:Int,0≤r→(rv S1.table r).live = (rv S.table r).live
theorem Same.progs {S S1:Sim} (E:Same S S1):S1.progs = S.progs:=congrArg Prod.fst E.pc_
theorem Same.refl (S:Sim):Same S S:=⟨rfl,rfl,rfl,rfl,rfl,rfl,λ_ _=>rfl⟩
theorem Bd.mono {c d:Nat} {S:Sim} (B:Bd c S) (h:c≤d):Bd d S:=
 ⟨by have:=B.ev;omega,by have:=B.old;omega,⟨B.cy.1,by have:=B.cy.2;omega⟩,⟨B.fu.1,by have:=B.fu.2;omega⟩,by have:=B.st;omega,B.pn⟩
theorem fin_th {c:Nat} {S S1:Sim} {g g' : Gh} {i:Int} {t t' : Thr} (I:IG P S g) (B:Bd c S1) (ht:idx S.th i = some t) (hsh:Sh (xof S1 g')) (K:Kp i (xof S g) (xof S1 g')) (E:Same S S1) (hT:TI (xof S1 g') i (S.opOf i t') t') :
  IG P (S1.setT i t') g'∧Bd c (S1.setT i t')∧idx (S1.setT i t').th i = some t':=by
 refine⟨I.step ht (t':=t') (by show seti S1.th i t' = _;rw[E.th]) hsh K E.col E.marks E.live E.pc_ ?_ λh h'=>?_,⟨B.ev,B.old,B.cy,B.fu,B.st,B.pn⟩,?_⟩
 ·have:(S1.setT i t').opOf i t' = S.opOf i t':=by unfold Sim.opOf Sim.setT;simp only[show S1.progs = S.progs from congrArg Prod.fst E.pc_]
  rw[this];exact hT
 ·rw[← E.stop,← E.full];exact⟨h,h'⟩
 ·show idx (seti S1.th i t') i = _
  rw[E.th];exact idx_seti ht
def Sim.evd (S:Sim) (i ans code:Int) (t:Thr) (roots:List Int):Sim:={ S with ev:=S.ev ++ [⟨i,t.next,ans,code⟩],th:=seti S.th i (thr0 roots (t.next + 1) 0) }
theorem event_eq {S:Sim} {i ans code:Int} {t:Thr} (hz:S.sz = true) (ht:idx S.th i = some t) (hn:0≤t.next∧t.next < 40):S.event i ans code = some (S.evd i ans code t t.roots):=by
 unfold Sim.event
 rw[hz,ht]
 simp only[Bool.not_true,Bool.false_eq_true,if_false,plus]
 rw[if_pos (by omega)]
 rfl
theorem push_eq {S:Sim} {i a:Int} {t:Thr} (hz:S.sz = true) (hl:t.roots.length < 1000) (ht:idx S.th i = some t) (hn:0≤t.next∧t.next < 40):S.push i a = some (S.evd i 0 0 t (t.roots ++ [a])):=by
 unfold Sim.push
 rw[hz,ht]
 simp only[Bool.not_true,Bool.false_eq_true,if_false]
 rw[event_eq (t:={ t with roots:=t.roots ++ [a] }) ?_ (idx_seti ht) hn]
 ·unfold Sim.evd Sim.setT
  simp only[seti_seti]
 ·unfold Sim.sz at hz ⊢
  rw[z_b,List.all_eq_true] at hz ⊢
  refine⟨hz.1,λu hu=>?_⟩
  rcases List.mem_or_eq_of_mem_set hu with h | h
  ·exact hz.2 u h
  ·subst h;exact decide_eq_true (by simp;omega)
theorem fin_ev {c:Nat} {S S1:Sim} {g g' : Gh} {i ans code:Int} {t:Thr} {o:Op} (I:IG P S g) (B:Bd c S1) (ht:idx S.th i = some t) (ho:S.opOf i t = some o) (hsh:Sh (xof S1 g')) (K:Kp i (xof S g) (xof S1 g')) (E:Same S S1) (roots:List Int) (hr:∀a∈roots,a≠0→g'.L a) (hl:roots.length≤8) :
  IG P (S1.evd i ans code t roots) g'∧Bd (c + 1) (S1.evd i ans code t roots)∧idx (S1.evd i ans code t roots).th i = some (thr0 roots (t.next + 1) 0):=by
 have hn:=I.next ht ho
 refine⟨I.step ht (t':=thr0 roots (t.next + 1) 0) (by show seti S1.th i _ = _;rw[E.th]) hsh K E.col E.marks E.live E.pc_ ?_ λh h'=>?_,?_,?_⟩
 ·exact⟨hr,hl,by show 0≤t.next + 1;omega,λ_ _ h=>absurd rfl h,.inl ⟨rfl,rfl,rfl⟩⟩
 ·rw[← E.stop,← E.full];exact⟨h,h'⟩
 ·have B':=B.mono (Nat.le_succ c)
  exact⟨by have:=B.ev;show (S1.ev ++ [_]).length≤c + 1;simp;omega,B'.old,B'.cy,B'.fu,B'.st,B'.pn⟩
 ·show idx (seti S1.th i _) i = _
  rw[E.th];exact idx_seti ht
theorem fin_back {c:Nat} {S S1:Sim} {g:Gh} {i:Int} {t:Thr} (I:IG P S g) (B:Bd c S1) (ht:idx S.th i = some t) (hsh:Sh (xof S1 g)) (K:Kp i (xof S g) (xof S1 g)) (E:Same S S1) :
  ∃S',S1.back i = some S'∧IG P S' g∧Bd c S'∧idx S'.th i = some (thr0 t.roots t.next 1):=by
 have T:=I.ti i t ht
 unfold Sim.back
 rw[E.th,ht]
 refine⟨_,rfl,I.step ht (t':=thr0 t.roots t.next 1) (by show seti S1.th i _ = _;rw[E.th]) hsh K E.col E.marks E.live E.pc_ ?_ λh h'=>?_,⟨B.ev,B.old,B.cy,B.fu,B.st,B.pn⟩,?_⟩
 ·exact⟨λa h h0=>K.l a (T.rt a h h0),T.rl,T.nx,λ_ _ h=>absurd rfl h,.inl ⟨rfl,rfl,rfl⟩⟩
 ·cases h'
 ·show idx (seti S1.th i _) i = _
  rw[E.th];exact idx_seti ht
theorem TI.upd {x y:X} {i:Int} {po:Option Op} {t t' : Thr} {o:Op} (T:TI x i po t) (K:Kp i x y) (hr:t'.roots = t.roots) (hn:t'.next = t.next) (hpc:t.pc≠0) (ho:po = some o) (R:Run y i o t'):TI y i po t':=
 ⟨λa h h0=>K.l a (T.rt a (hr▸h) h0),by rw[hr];exact T.rl,by rw[hn];exact T.nx,λo' h _ hk=>by rw[hr];exact T.r8 o' h hpc hk,.inr ⟨o,ho,R⟩⟩
theorem Bs.eqv {x:X} {o:Op} {t t' : Thr} {pc:Int} (b:Bs x o t pc) (h:t'.h = t.h) (g:t'.g = t.g) (k:t'.k = t.k) (u:t'.u = t.u) (v:t'.v = t.v) (s:t'.sh = t.sh):Bs x o t' pc:=by
 refine⟨b.p,b.k,?_,?_,?_,?_,?_,?_,?_,?_,?_,b.k5,b.k6,b.k8,b.k9,b.k10,?_,?_,?_,?_,b.p15⟩
 ·rw[h];exact b.h
 ·rw[g];exact b.g
 ·rw[k];exact b.kk
 ·rw[h];exact b.h0
 ·rw[h];exact b.nh
 ·rw[g];exact b.ng
 ·rw[k];exact b.nk
 ·rw[h,s];exact b.s
 ·rw[s];exact b.f
 ·rw[h];exact b.l7
 ·rw[u];exact b.l14
 ·rw[v];exact b.v
 ·rw[v];exact b.nv
theorem retOk.le {r:Int} (h:retOk r):1≤r∧r≤15:=by rcases h with rfl | rfl | rfl | rfl | rfl<;>decide
theorem Bs.held {x:X} {o:Op} {t:Thr} {pc:Int} (b:Bs x o t pc) (r:retOk pc) (h0:l8Held t pc≠0):x.L (l8Held t pc):=by
 rcases r with rfl | rfl | rfl | rfl | rfl
 ·exact b.h h0
 ·exact b.g h0
 ·exact b.kk h0
 ·exact b.v (by decide) (by decide) h0
 ·exact b.v (by decide) (by decide) h0
theorem Bs.go {x:X} {o:Op} {t:Thr} {pc:Int} (b:Bs x o t pc) (r:retOk pc) (hn:¬ From x.t (l8Held t pc)):Bs x o t (l8Next pc):=by
 rcases r with rfl | rfl | rfl | rfl | rfl
 ·exact⟨by decide,b.k,b.h,b.g,b.kk,b.h0,λ_=>hn,λh=>absurd h (by decide),λh=>absurd h (by decide),λh=>absurd h (by decide),λh=>absurd h (by decide),λh=>absurd h (by decide),λh=>absurd h (by decide),λh=>absurd h (by decide),λh=>absurd h (by decide),λh=>absurd h (by decide),λh=>absurd h (by decide),λh=>absurd h (by decide),λh=>absurd h (by decide),λh=>absurd h (by decide),λh=>absurd h (by decide)⟩
 ·exact⟨by decide,b.k,b.h,b.g,b.kk,b.h0,λ_=>b.nh (by decide),λ_=>hn,λh=>absurd h (by decide),λh=>absurd h (by decide),λh=>absurd h (by decide),λh=>absurd h (by decide),λh=>absurd h (by decide),λh=>absurd h (by decide),λh=>absurd h (by decide),λh=>absurd h (by decide),λh=>absurd h (by decide),λh=>absurd h (by decide),λh=>absurd h (by decide),λh=>absurd h (by decide),λh=>absurd h (by decide)⟩
 ·exact⟨by decide,b.k,b.h,b.g,b.kk,b.h0,λ_=>b.nh (by decide),λ_=>b.ng (by decide),λ_=>hn,λh=>absurd h (by decide),λh=>absurd h (by decide),λh=>absurd h (by decide),λh=>absurd h (by decide),λh=>absurd h (by decide),λh=>absurd h (by decide),λh=>absurd h (by decide),λh=>absurd h (by decide),λh=>absurd h (by decide),λh=>absurd h (by decide),λh=>absurd h (by decide),λh=>absurd h (by decide)⟩
 ·exact⟨by decide,b.k,b.h,b.g,b.kk,b.h0,λ_=>b.nh (by decide),λ_=>b.ng (by decide),λ_=>b.nk (by decide),λ_=>b.s (by decide),λ_=>b.f (by decide),λ_=>b.k5 (by decide),λh=>absurd h (by decide),λh=>absurd h (by decide),λh=>absurd h (by decide),λh=>absurd h (by decide),λh=>absurd h (by decide),λh=>absurd h (by decide),λ_ _=>b.v (by decide) (by decide),λ_=>hn,λh=>absurd h (by decide)⟩
 ·exact⟨by decide,b.k,b.h,b.g,b.kk,b.h0,λ_=>b.nh (by decide),λ_=>b.ng (by decide),λ_=>b.nk (by decide),λ_=>b.s (by decide),λ_=>b.f (by decide),λh=>absurd h (by decide),λh=>absurd h (by decide),λh=>absurd h (by decide),λh=>absurd h (by decide),λ_=>b.k10 (by decide),λh=>absurd h (by decide),λh=>absurd h (by decide),λ_ _=>b.v (by decide) (by decide),λ_=>hn,λ_=>b.p15 (by decide)⟩
theorem Bs.hold {x:X} {o:Op} {t:Thr} {pc f:Int} (b:Bs x o t pc) (r:retOk pc) (hL:x.L f) (h0:f≠0) (hn:¬ From x.t f):Bs x o (l8Hold t pc f) (l8Next pc):=by
 rcases r with rfl | rfl | rfl | rfl | rfl
 ·have b1:Bs x o { t with h:=f } 1:=⟨b.p,b.k,λ_=>hL,b.g,b.kk,λ_=>h0,λh=>absurd h (by decide),λh=>absurd h (by decide),λh=>absurd h (by decide),λh=>absurd h (by decide),λh=>absurd h (by decide),b.k5,b.k6,b.k8,b.k9,b.k10,λh=>absurd h (by decide),b.l14,b.v,b.nv,b.p15⟩
  exact (b1.go (.inl rfl) hn).eqv rfl rfl rfl rfl rfl rfl
 ·have b1:Bs x o { t with g:=f } 2:=⟨b.p,b.k,b.h,λ_=>hL,b.kk,b.h0,b.nh,λh=>absurd h (by decide),λh=>absurd h (by decide),λh=>absurd h (by decide),λh=>absurd h (by decide),b.k5,b.k6,b.k8,b.k9,b.k10,λh=>absurd h (by decide),b.l14,b.v,b.nv,b.p15⟩
  exact (b1.go (.inr (.inl rfl)) hn).eqv rfl rfl rfl rfl rfl rfl
 ·have b1:Bs x o { t with k:=f } 3:=⟨b.p,b.k,b.h,b.g,λ_=>hL,b.h0,b.nh,b.ng,λh=>absurd h (by decide),λh=>absurd h (by decide),λh=>absurd h (by decide),b.k5,b.k6,b.k8,b.k9,b.k10,λh=>absurd h (by decide),b.l14,b.v,b.nv,b.p15⟩
  exact (b1.go (.inr (.inr (.inl rfl))) hn).eqv rfl rfl rfl rfl rfl rfl
 ·have b1:Bs x o { t with v:=f } 11:=⟨b.p,b.k,b.h,b.g,b.kk,b.h0,b.nh,b.ng,b.nk,b.s,b.f,b.k5,b.k6,b.k8,b.k9,b.k10,λh=>absurd h (by decide),b.l14,λ_ _ _=>hL,λh=>absurd h (by decide),b.p15⟩
  exact (b1.go (.inr (.inr (.inr (.inl rfl)))) hn).eqv rfl rfl rfl rfl rfl rfl
 ·have b1:Bs x o { t with v:=f } 15:=⟨b.p,b.k,b.h,b.g,b.kk,b.h0,b.nh,b.ng,b.nk,b.s,b.f,b.k5,b.k6,b.k8,b.k9,b.k10,λh=>absurd h (by decide),b.l14,λ_ _ _=>hL,λh=>absurd h (by decide),b.p15⟩
  exact (b1.go (.inr (.inr (.inr (.inr rfl)))) hn).eqv rfl rfl rfl rfl rfl rfl
theorem hold_same (t:Thr) (pc f:Int):(l8Hold t pc f).roots = t.roots∧(l8Hold t pc f).next = t.next∧(l8Hold t pc f).pc = l8Next pc:=by
 unfold l8Hold
 refine⟨?_,?_,rfl⟩<;>(simp only[];split<;>(try split)<;>(try split)<;>rfl)
theorem Cp.start {x:X} {o src dst size i word:Int} (h1:x.L src) (h2:From x.t src) (h3:x.ph = 2):Cp x o src dst size i word 20:=
 ⟨by decide,h1,h2,h3,λh=>absurd h (by decide),λh=>absurd h (by decide),λh=>absurd h (by decide),λh=>absurd h (by decide),λh=>absurd h (by decide),λh=>absurd h (by decide),λh=>absurd h (by decide),λh=>absurd h (by decide)⟩
def rk (pc:Int):Nat:=if pc = 1 then 4 else if pc = 2 then 3 else if pc = 3 then 2 else if pc = 4 then 1 else if pc = 11 then 1 else if pc = 15 then 2 else if pc = 16 then 1 else if pc = 30 then 1 else 0
def Nearer (i pc:Int) (S' : Sim):Prop:=S'.used = true∨∃t',idx S'.th i = some t'∧(t'.pc = 0∨rk t'.pc < rk pc)
def Out (P:List (List Op)) (c:Nat) (i pc:Int) (r:Option Sim):Prop:=∃S' g',r = some S'∧IG P S' g'∧Bd (c + 1) S'∧Nearer i pc S'
theorem region_div {a:Int} (h:0≤a):regionOf a = a / 16:=by unfold regionOf;rw[if_neg (by omega)]
theorem IG.in_ {S:Sim} {g:Gh} (I:IG P S g) {a:Int} (h:g.L a):16≤a∧1≤a / 16∧a / 16 < S.table.length∧a + sz S.words a≤S.words.length∧2≤sz S.words a∧sz S.words a≤10:=by
 obtain⟨g1,g2,g3,g4,g5,g6,g7,g8⟩:=I.sh.g.inn (I.sh.lb a h)
 exact⟨g1,g2,g3,g6,g7,g8⟩
theorem IG.frm {S:Sim} {g:Gh} (I:IG P S g) {a:Int} (h:a≠0→g.L a):∃b,S.from_ a = some b∧(b = true↔From S.table a):=by
 unfold Sim.from_
 by_cases c:a = 0
 ·subst c
  refine⟨false,by simp,?_⟩
  have:=I.sh.g.ok.e
  unfold From
  have e:rv S.table 0 = edge:=this
  rw[show (0:Int) / 16 = 0 from rfl,e]
  simp[edge]
 ·obtain⟨h1,h2,h3,_⟩:=I.in_ (h c)
  rw[if_neg c,region_div (by omega),idx_rv (by omega) h3]
  refine⟨_,rfl,?_⟩
  unfold From
  simp only[beq_iff_eq]
  exact⟨λh=>⟨by omega,h⟩,λh=>h.2⟩
theorem read_eq {S:Sim} {a:Int} (h0:0≤a) (h1:a < S.words.length):S.read a = some (wv S.words a,{ S with used:=true }):=by
 unfold Sim.read;rw[idx_wv h0 h1]
theorem write_eq {S:Sim} {a v:Int} (h0:0≤a) (h1:a < S.words.length):S.write a v = some { S with used:=true,words:=seti S.words a v }:=by
 unfold Sim.write;rw[if_pos ⟨h0,h1⟩]
theorem plus_eq {a b:Int} (h:-1000000≤a + b) (h' : a + b≤1000000):plus a b = some (a + b):=by
 unfold plus;rw[if_pos (by omega)]
theorem IG.wl {S:Sim} {g:Gh} (I:IG P S g):S.words.length≤192:=by
 have h1:=I.sh.g.len
 have h2:=I.sh.g.ok.n1
 simp only at h1 h2
 omega
theorem rk_next {pc:Int} (r:retOk pc):rk (l8Next pc) < rk pc:=by rcases r with rfl | rfl | rfl | rfl | rfl<;>decide
theorem resolve_ok {c:Nat} {S:Sim} {g:Gh} {i:Int} {t:Thr} {o:Op} (I:IG P S g) (B:Bd c S) (ht:idx S.th i = some t) (ho:S.opOf i t = some o) (b:Bs (xof S g) o t t.pc) (r:retOk t.pc):Out P c i t.pc (S.resolve i):=by
 have T:=I.ti i t ht
 have hpc:t.pc≠0:=by have:=r.le;omega
 unfold Sim.resolve
 rw[ht]
 simp only[Option.bind_eq_bind,z_o]
 rw[if_neg (by have:=r.le;omega)]
 obtain⟨d,hd,hdf⟩:=I.frm (a:=l8Held t t.pc) (λh=>b.held r h)
 rw[hd]
 simp only[z_o]
 cases d with
 | false=>
  have hn:¬ From S.table (l8Held t t.pc):=λh=>by have:=hdf.2 h;cases this
  rw[if_pos (by rfl)]
  obtain⟨I',B',ht'⟩:=fin_th (t':={ t with pc:=l8Next t.pc }) I B ht I.sh (Kp.refl i _) (Same.refl S) (T.upd (Kp.refl i _) rfl rfl hpc ho (.bs ((b.go r hn).eqv rfl rfl rfl rfl rfl rfl)))
  exact⟨_,g,rfl,I',B'.mono (Nat.le_succ c),.inr ⟨_,ht',.inr (rk_next r)⟩⟩
 | true=>
  have hf:From S.table (l8Held t t.pc):=hdf.1 rfl
  have h0:l8Held t t.pc≠0:=λh=>by
   rw[h] at hf
   have:=hf.2
   have e:rv S.table 0 = edge:=I.sh.g.ok.e
   rw[show (0:Int) / 16 = 0 from rfl,e] at this;cases this
  have hL:=b.held r h0
  obtain⟨a1,a2,a3,a4,a5,_⟩:=I.in_ hL
  rw[if_neg (by simp),read_eq (by omega) (by omega)]
  simp only[z_o]
  split
  ·rename_i hc
   obtain⟨I',B',ht'⟩:=fin_th (S1:={ S with used:=true }) (t':={ t with src:=l8Held t t.pc,ret:=t.pc,pc:=20 }) I (c:=c) ⟨B.ev,B.old,B.cy,B.fu,B.st,B.pn⟩ ht I.sh (Kp.refl i _) ⟨rfl,rfl,rfl,rfl,rfl,rfl,λ_ _=>rfl⟩
    (T.upd (Kp.refl i _) rfl rfl hpc ho (.cp (b.eqv rfl rfl rfl rfl rfl rfl) r (by rfl) (Cp.start hL hf hc.2)))
   exact⟨_,g,rfl,I',B'.mono (Nat.le_succ c),.inl rfl⟩
  ·rename_i hc
   have hne:wv S.words (l8Held t t.pc)≠l8Held t t.pc:=λhe=>by
    have h2:S.phase≠2:=λh=>hc ⟨he,h⟩
    have hp:=I.sh.ph
    simp only at hp
    by_cases h3:S.phase = 3
    ·exact I.sh.af h3 _ hL hf he
    ·exact I.sh.nf (by show S.phase≤1;omega) _ (by omega) hf.2
   obtain⟨f1,f2,_⟩:g.L (wv S.words (l8Held t t.pc))∧¬ From S.table (wv S.words (l8Held t t.pc))∧_:=I.sh.fw _ (I.sh.lb _ hL) hf hne
   have hs:=hold_same t t.pc (wv S.words (l8Held t t.pc))
   obtain⟨I',B',ht'⟩:=fin_th (S1:={ S with used:=true }) (t':=l8Hold t t.pc (wv S.words (l8Held t t.pc))) I (c:=c) ⟨B.ev,B.old,B.cy,B.fu,B.st,B.pn⟩ ht I.sh (Kp.refl i _) ⟨rfl,rfl,rfl,rfl,rfl,rfl,λ_ _=>rfl⟩
    (by
     have:S.opOf i (l8Hold t t.pc (wv S.words (l8Held t t.pc))) = S.opOf i t:=by unfold Sim.opOf;rw[hs.2.1]
     rw[this]
     exact T.upd (Kp.refl i _) hs.1 hs.2.1 hpc ho (.bs (by rw[hs.2.2];exact b.hold r f1 (by have:=I.in_ f1;omega) f2)))
   exact⟨_,g,rfl,I',B'.mono (Nat.le_succ c),.inl rfl⟩
end Sm
end
section
namespace Sm
variable {P:List (List Op)}
theorem cp20 {x:X} {o src d word:Int} {t' : List Rg} (H:Sh x) (hL:x.L src) (hf:From x.t src) (h2:x.ph = 2) (P:RoomP x.t o (sz x.w src) t' d) :
  Sh { x with t:=t' }∧Kp o x { x with t:=t' }∧Cp { x with t:=t' } o src d (sz x.w src) 1 word 21:=by
 obtain⟨h1,K,O⟩:=room H P
 have g:=H.g.inn (H.lb _ hL)
 refine⟨h1,K,⟨by decide,hL,K.frm.2 hf,h2,λ_=>rfl,λ_=>O,λ_=>by omega,λ_=>by omega,λ_ j j0 j1=>by omega,λh=>absurd h (by decide),λh=>absurd h (by decide),λh=>absurd h (by decide)⟩⟩
theorem cp21 {x:X} {o src d size i word:Int} (c:Cp x o src d size i word 21):Cp x o src d size i (wv x.w (src + i)) 22:=
 ⟨by decide,c.ls,c.fs,c.p2,λ_=>c.sz (by decide),λ_=>c.ow (by decide),λ_=>c.i0 (by decide),λ_=>c.i1 (by decide),λ_=>c.cp (by decide),λ_=>rfl,λh=>absurd h (by decide),λh=>absurd h (by decide)⟩
theorem cp22 {x:X} {o src d size i word:Int} (H:Sh x) (c:Cp x o src d size i word 22):Sh { x with w:=seti x.w (d + i) word }∧Kp o x { x with w:=seti x.w (d + i) word }∧Cp { x with w:=seti x.w (d + i) word } o src d size (i + 1) word (if i + 1 = size then 23 else 21):=by
 have O:=c.ow (by decide)
 have h1:=c.i0 (by decide)
 have h2:=c.i1 (.inr rfl)
 obtain⟨h3,K⟩:=priv (z:=d + i) (v:=word) H O (by omega) (by omega)
 have g:=H.g.inn (H.lb _ c.ls)
 have hs:=c.sz (by decide)
 have wl:=O.wl H.g
 have d0:=O.d0
 have e:∀u,0≤u→wv (seti x.w (d + i) word) u = if u = d + i then word else wv x.w u:=λu hu=>wv_set (by omega) (by omega) hu
 have es:∀j,0≤j→j < sz x.w src→wv (seti x.w (d + i) word) (src + j) = wv x.w (src + j):=λj j0 j1=>by
  rw[e _ (by omega),if_neg (O.sep H.g (by omega) (by omega) (H.lb _ c.ls) j0 j1)]
 refine⟨h3,K,?_⟩
 have hp:∀q:Int,(q = 21∨q = 23)→(q = 23→i + 1 = size)→(q = 21→i + 1≠size)→Cp { x with w:=seti x.w (d + i) word } o src d size (i + 1) word q:=λq hq h5 h6=>by
  refine⟨by omega,c.ls,c.fs,c.p2,λ_=>?_,λ_=>⟨O.d0,O.k,O.o,O.top,O.fit⟩,λ_=>by omega,λh=>by omega,λ_ j j0 j1=>?_,λh=>by omega,λh=>by omega,λh=>by omega⟩
  ·show size = sz (seti x.w (d + i) word) src
   rw[sz_congr (es 1 (by omega) (by omega))];exact hs
  ·show wv (seti x.w (d + i) word) (d + j) = wv (seti x.w (d + i) word) (src + j)
   rw[es j (by omega) (by omega),e _ (by omega)]
   by_cases h:j = i
   ·subst h;rw[if_pos rfl];exact c.wd rfl
   ·rw[if_neg (by omega)];exact c.cp (by decide) j j0 (by omega)
 split
 ·exact hp 23 (.inr rfl) (λ_=>by assumption) (λh=>absurd h (by decide))
 ·exact hp 21 (.inl rfl) (λh=>absurd h (by decide)) (λ_=>by assumption)
theorem cp23 {x:X} {o src d size i word:Int} (H:Sh x) (c:Cp x o src d size i word 23):Sh { x with w:=seti x.w d d }∧Kp o x { x with w:=seti x.w d d }∧Cp { x with w:=seti x.w d d } o src d size i word 24:=by
 have O:=c.ow (by decide)
 have h1:=c.i0 (by decide)
 have h2:=c.dn (by decide)
 obtain⟨h3,K⟩:=priv (z:=d) (v:=d) H O (by omega) (by omega)
 have g:=H.g.inn (H.lb _ c.ls)
 have hs:=c.sz (by decide)
 have wl:=O.wl H.g
 have d0:=O.d0
 have e:∀u,0≤u→wv (seti x.w d d) u = if u = d then d else wv x.w u:=λu hu=>wv_set (by omega) (by omega) hu
 have es:∀j,0≤j→j < sz x.w src→wv (seti x.w d d) (src + j) = wv x.w (src + j):=λj j0 j1=>by
  rw[e _ (by omega),if_neg (O.sep H.g (by omega) (by omega) (H.lb _ c.ls) j0 j1)]
 refine⟨h3,K,⟨by decide,c.ls,c.fs,c.p2,λ_=>?_,λ_=>⟨O.d0,O.k,O.o,O.top,O.fit⟩,λ_=>h1,λh=>absurd h (by decide),λ_ j j0 j1=>?_,λh=>absurd h (by decide),λ_=>h2,λ_=>?_⟩⟩
 ·show size = sz (seti x.w d d) src
  rw[sz_congr (es 1 (by omega) (by omega))];exact hs
 ·show wv (seti x.w d d) (d + j) = wv (seti x.w d d) (src + j)
  rw[es j (by omega) (by omega),e _ (by omega),if_neg (by omega)]
  exact c.cp (by decide) j j0 j1
 ·show wv (seti x.w d d) d = d
  rw[e _ (by omega),if_pos rfl]
theorem cp24 {x:X} {o src d size i word:Int} (H:Sh x) (c:Cp x o src d size i word 24) (hw:wv x.w src = src) :
  Sh { x.pub d size with w:=seti x.w src d }∧Kp o x { x.pub d size with w:=seti x.w src d }∧¬ From (x.pub d size).t d∧16≤d∧d≠src:=by
 have O:=c.ow (by decide)
 have h1:=c.i0 (by decide)
 have h2:=c.dn (by decide)
 have g:=H.g.inn (H.lb _ c.ls)
 have hs:=c.sz (by decide)
 have d0:=O.d0
 have sb:=sz_b x.w src
 have e1:wv x.w (d + 1) = wv x.w (src + 1):=c.cp (by decide) 1 (by decide) (by omega)
 have ez:sz x.w d = size:=by
  unfold sz;rw[shp_congr (a:=d) (w:=x.w) (w':=x.w) rfl]
  have:shp x.w d = shp x.w src:=by unfold shp;rw[e1]
  rw[this];exact hs.symm
 have es:shp x.w d = shp x.w src:=by unfold shp;rw[e1]
 have nd:d≠src:=by
  intro h
  have:=O.sep H.g (z:=d) (by omega) (by omega) (H.lb _ c.ls) (k:=0) (by omega) (by omega)
  omega
 obtain⟨P,K⟩:=pub H O ez (by rw[e1];exact (H.g.at_ _ (H.lb _ c.ls)).2.2) (c.hd rfl) (λj j0 j1=>by
  rw[es] at j1
  rw[show d + 2 + j = d + (2 + j) from by omega,c.cp (by decide) (2 + j) (by omega) (by omega),show src + (2 + j) = src + 2 + j from by omega]
  exact H.rf src j c.ls j0 j1) (λh=>absurd h (by rw[c.p2];decide))
 have nf:¬ From (x.pub d size).t d:=λh=>by
  have:=(K.frm.1 h).2
  rw[O.k] at this;cases this
 obtain⟨P2,K2⟩:=fwd (o:=o) (x:=x.pub d size) P (K.l _ c.ls) (K.frm.2 c.fs) hw (.inr rfl) nf e1 (by rw[K.ph,c.p2];decide)
 exact⟨P2,K.trans K2 H P,nf,d0,nd⟩
theorem copying_ok {c:Nat} {S:Sim} {g:Gh} {i:Int} {t:Thr} {o:Op} (I:IG P S g) (B:Bd c S) (ht:idx S.th i = some t) (ho:S.opOf i t = some o) (b:Bs (xof S g) o t t.ret) (r:retOk t.ret) (e:l8Held t t.ret = t.src) (cp:Cp (xof S g) i t.src t.dst t.size t.i t.word t.pc):Out P c i t.pc (S.copying i):=by
 have T:=I.ti i t ht
 have p:=cp.p
 have hpc:t.pc≠0:=by omega
 have hwl:=I.wl
 obtain⟨a1,a2,a3,a4,a5,a6⟩:=I.in_ cp.ls
 obtain⟨i0,i1,_⟩:=gv_idx t ht
 have hn1:=I.n1
 have B1:Bd c { S with used:=true }:=⟨B.ev,B.old,B.cy,B.fu,B.st,B.pn⟩
 unfold Sim.copying
 rw[ht]
 simp only[Option.bind_eq_bind,z_o]
 by_cases c20:t.pc = 20
 ·rw[if_pos c20,plus_eq (by omega) (by omega)]
  simp only[z_o]
  rw[read_eq (by omega) (by omega)]
  simp only[z_o]
  have es:shapeSize (shapeOf (wv S.words (t.src + 1))).1 = sz S.words t.src:=rfl
  rw[es]
  rcases room_spec (o:=i) (size:=sz S.words t.src) I.sh.g.ok (by omega) (by omega) (by omega) (by omega) with h | ⟨t',d,h,P⟩
  ·have h' : tableRoom S.table i (sz S.words t.src) = none:=h
   simp only[h']
   obtain⟨S',h1,I',B',ht'⟩:=fin_back (S1:={ S with used:=true }) I B1 ht I.sh (Kp.refl i _) ⟨rfl,rfl,rfl,rfl,rfl,rfl,λ_ _=>rfl⟩
   exact⟨S',g,h1,I',B'.mono (Nat.le_succ c),.inr ⟨_,ht',.inl rfl⟩⟩
  ·have h' : tableRoom S.table i (sz S.words t.src) = some (t',d):=h
   simp only[h']
   obtain⟨h1,K,C⟩:=cp20 (word:=t.word) I.sh cp.ls cp.fs cp.p2 P
   obtain⟨I',B',ht'⟩:=fin_th (S1:={ S with used:=true,table:=t' }) (g':=g) (t':={ t with size:=sz S.words t.src,dst:=d,i:=1,pc:=21 }) I (c:=c) ⟨B.ev,B.old,B.cy,B.fu,B.st,B.pn⟩ ht h1 K ⟨rfl,rfl,rfl,rfl,rfl,rfl,P.live⟩
    (T.upd K rfl rfl hpc ho (.cp ((b.stable I.sh K).eqv rfl rfl rfl rfl rfl rfl) r (by show l8Held _ t.ret = t.src;rw[← e];rfl) C))
   exact⟨_,g,rfl,I',B'.mono (Nat.le_succ c),.inl rfl⟩
 rw[if_neg c20]
 have j0:=cp.i0 (by omega)
 have hs:=cp.sz (by omega)
 have O:=cp.ow (by omega)
 have ow:=O.wl I.sh.g
 have d0:=O.d0
 simp only at hs ow
 by_cases c21:t.pc = 21
 ·rw[if_pos c21]
  have j1:=cp.i1 (.inl c21)
  rw[plus_eq (by omega) (by omega)]
  simp only[z_o]
  rw[read_eq (by omega) (by omega)]
  simp only[z_o]
  rw[c21] at cp
  obtain⟨I',B',ht'⟩:=fin_th (S1:={ S with used:=true }) (t':={ t with word:=wv S.words (t.src + t.i),pc:=22 }) I B1 ht I.sh (Kp.refl i _) ⟨rfl,rfl,rfl,rfl,rfl,rfl,λ_ _=>rfl⟩
   (T.upd (Kp.refl i _) rfl rfl hpc ho (.cp (b.eqv rfl rfl rfl rfl rfl rfl) r (by show l8Held _ t.ret = t.src;rw[← e];rfl) (cp21 cp)))
  exact⟨_,g,rfl,I',B'.mono (Nat.le_succ c),.inl rfl⟩
 rw[if_neg c21]
 by_cases c22:t.pc = 22
 ·rw[if_pos c22]
  have j1:=cp.i1 (.inr c22)
  rw[plus_eq (by omega) (by omega)]
  simp only[z_o]
  rw[write_eq (by omega) (by omega)]
  simp only[z_o]
  rw[plus_eq (by omega) (by omega)]
  simp only[z_o]
  rw[c22] at cp
  obtain⟨h1,K,C⟩:=cp22 I.sh cp
  obtain⟨I',B',ht'⟩:=fin_th (S1:={ S with used:=true,words:=seti S.words (t.dst + t.i) t.word }) (g':=g) (t':={ t with i:=t.i + 1,pc:=if t.i + 1 = t.size then 23 else 21 }) I (c:=c) ⟨B.ev,B.old,B.cy,B.fu,B.st,B.pn⟩ ht h1 K ⟨rfl,rfl,rfl,rfl,rfl,rfl,λ_ _=>rfl⟩
   (T.upd K rfl rfl hpc ho (.cp ((b.stable I.sh K).eqv rfl rfl rfl rfl rfl rfl) r (by show l8Held _ t.ret = t.src;rw[← e];rfl) C))
  exact⟨_,g,rfl,I',B'.mono (Nat.le_succ c),.inl rfl⟩
 rw[if_neg c22]
 by_cases c23:t.pc = 23
 ·rw[if_pos c23]
  rw[write_eq (by omega) (by omega)]
  simp only[z_o]
  rw[c23] at cp
  obtain⟨h1,K,C⟩:=cp23 I.sh cp
  obtain⟨I',B',ht'⟩:=fin_th (S1:={ S with used:=true,words:=seti S.words t.dst t.dst }) (g':=g) (t':={ t with pc:=24 }) I (c:=c) ⟨B.ev,B.old,B.cy,B.fu,B.st,B.pn⟩ ht h1 K ⟨rfl,rfl,rfl,rfl,rfl,rfl,λ_ _=>rfl⟩
   (T.upd K rfl rfl hpc ho (.cp ((b.stable I.sh K).eqv rfl rfl rfl rfl rfl rfl) r (by show l8Held _ t.ret = t.src;rw[← e];rfl) C))
  exact⟨_,g,rfl,I',B'.mono (Nat.le_succ c),.inl rfl⟩
 rw[if_neg c23,if_pos (by omega),if_neg (by have:=r.le;omega)]
 have c24:t.pc = 24:=by omega
 rw[c24] at cp
 rw[read_eq (by omega) (by omega)]
 simp only[z_o]
 by_cases hw:wv S.words t.src = t.src
 ·rw[if_pos hw,write_eq (by show (0:Int)≤_;omega) (by show _ < (S.words.length:Int);omega)]
  simp only[z_o]
  obtain⟨h1,K,nf,_,_⟩:=cp24 I.sh cp hw
  have htop:Sim.top { S with used:=true,words:=seti S.words t.src t.dst } t.dst t.size = some { S with used:=true,words:=seti S.words t.src t.dst,table:=seti S.table (t.dst / 16) { rv S.table (t.dst / 16) with top:=t.dst + t.size } }:=by
   unfold Sim.top
   rw[region_div (by omega)]
   show (match idx S.table (t.dst / 16) with | some x=>_ | none=>_) = _
   rw[idx_rv (by omega) O.inn]
   simp only[]
   rw[plus_eq (by omega) (by omega)]
  simp only[htop,z_o]
  have hs2:=hold_same t t.ret t.dst
  obtain⟨I',B',ht'⟩:=fin_th (S1:={ S with used:=true,words:=seti S.words t.src t.dst,table:=seti S.table (t.dst / 16) { rv S.table (t.dst / 16) with top:=t.dst + t.size } }) (g':={ g with B:=λa=>g.B a∨a = t.dst,L:=λa=>g.L a∨a = t.dst }) (t':=l8Hold t t.ret t.dst) I (c:=c) ⟨B.ev,B.old,B.cy,B.fu,B.st,B.pn⟩ ht h1 K ⟨rfl,rfl,rfl,rfl,rfl,rfl,λq q0=>by
    show (rv (seti S.table (t.dst / 16) _) q).live = _
    rw[rv_set (by omega) O.inn q0];split
    ·subst q;rfl
    ·rfl⟩
   (by
    have:S.opOf i (l8Hold t t.ret t.dst) = S.opOf i t:=by unfold Sim.opOf;rw[hs2.2.1]
    rw[this]
    exact T.upd K hs2.1 hs2.2.1 hpc ho (.bs (by rw[hs2.2.2];exact (b.stable I.sh K).hold r (.inr rfl) (by omega) nf)))
  exact⟨_,_,rfl,I',B'.mono (Nat.le_succ c),.inl rfl⟩
 ·rw[if_neg hw]
  obtain⟨f1,f2,_⟩:g.L (wv S.words t.src)∧¬ From S.table (wv S.words t.src)∧_:=I.sh.fw _ (I.sh.lb _ cp.ls) cp.fs hw
  have hs2:=hold_same t t.ret (wv S.words t.src)
  obtain⟨I',B',ht'⟩:=fin_th (S1:={ S with used:=true }) (t':=l8Hold t t.ret (wv S.words t.src)) I B1 ht I.sh (Kp.refl i _) ⟨rfl,rfl,rfl,rfl,rfl,rfl,λ_ _=>rfl⟩
   (by
    have:S.opOf i (l8Hold t t.ret (wv S.words t.src)) = S.opOf i t:=by unfold Sim.opOf;rw[hs2.2.1]
    rw[this]
    exact T.upd (Kp.refl i _) hs2.1 hs2.2.1 hpc ho (.bs (by rw[hs2.2.2];exact b.hold r f1 (by have:=I.in_ f1;omega) f2)))
  exact⟨_,g,rfl,I',B'.mono (Nat.le_succ c),.inl rfl⟩
end Sm
end
section
namespace Sm
variable {P:List (List Op)}
theorem shapeOf_word {s:Shp} (h:shapeOk s = true):shapeOf (shapeWord s) = (s,true):=by
 have hb:=h
 simp only[shapeOk,z_b,z_d] at hb
 unfold shapeWord shapeOf
 rw[if_pos h]
 have e1:(16 * s.refs + s.nums) / 16 = s.refs:=by omega
 have e2:(16 * s.refs + s.nums) % 16 = s.nums:=by omega
 rw[if_pos (by omega),e1,e2]
theorem mg_pub {x:X} {o dst size:Int} {s:Shp} (H:Sh x) (O:Ow x o dst size) (ok:shapeOk s = true) (hs:size = shapeSize s) (hd:wv x.w dst = dst) (sp:wv x.w (dst + 1) = shapeWord s) (hz:∀j,2≤j→j < size→wv x.w (dst + j) = 0) :
  Sh (x.pub dst size)∧Kp o x (x.pub dst size):=by
 have e:shp x.w dst = s:=by unfold shp;rw[sp,shapeOf_word ok]
 have sb:=sz_b x.w dst
 have ez:sz x.w dst = size:=by unfold sz;rw[e,hs]
 have z:∀j,0≤j→j < (shp x.w dst).refs→wv x.w (dst + 2 + j) = 0:=λj j0 j1=>by
  have:=hz (2 + j) (by omega) (by omega)
  rwa [← Int.add_assoc] at this
 refine pub H O ez (by rw[sp,shapeOf_word ok]) hd (λj j0 j1 h=>absurd (z j j0 j1) h) (λ_ j j0 j1=>?_)
 rw[z j j0 j1]
 intro h
 have:=h.2
 rw[show (0:Int) / 16 = 0 from rfl,H.g.ok.e] at this;cases this
theorem idx_len {α:Type} {l:List α} {i:Int} {t:α} (h:idx l i = some t):0≤i∧i < l.length:=by
 obtain⟨h0,h1,_⟩:=gv_idx t h;exact⟨h0,h1⟩
theorem top_eq {S:Sim} {a n:Int} (h0:16≤a) (h1:a / 16 < S.table.length) (h2:-1000000≤a + n) (h3:a + n≤1000000):S.top a n = some { S with table:=seti S.table (a / 16) { rv S.table (a / 16) with top:=a + n } }:=by
 unfold Sim.top
 rw[region_div (by omega),idx_rv (by omega) h1]
 simp only[]
 rw[plus_eq h2 h3]
theorem made {c:Nat} {S S1:Sim} {g:Gh} {i:Int} {t t' : Thr} {o:Op} (hc:c < 900000) (I:IG P S g) (B:Bd c S1) (ht:idx S.th i = some t) (ho:S.opOf i t = some o) (hk:o.kind = 1) (hpc:t.pc≠0) (hsh:Sh (xof S1 g)) (K:Kp i (xof S g) (xof S1 g)) (E:Same S S1)
  (O:Ow (xof S1 g) i t.dst t.size) (ok:shapeOk o.sh = true) (hs:t.size = shapeSize o.sh) (hd:wv S1.words t.dst = t.dst) (sp:wv S1.words (t.dst + 1) = shapeWord o.sh) (hz:∀j,2≤j→j < t.size→wv S1.words (t.dst + j) = 0)
  (hr:t'.roots = t.roots) (hn' : t'.next = t.next) (hdst:t'.dst = t.dst) (hsz:t'.size = t.size) :
  ∃S',((S1.setT i t').top t'.dst t'.size >>= λS=>S.push i t'.dst) = some S'∧(∃g',IG P S' g')∧Bd (c + 1) S'∧idx S'.th i = some (thr0 (t.roots ++ [t.dst]) (t.next + 1) 0):=by
 have T:=I.ti i t ht
 have hn:=I.next ht ho
 have fit:=O.fit
 have d0:=O.d0
 have inn:t.dst / 16 < S1.table.length:=O.inn
 have n1:=hsh.g.ok.n1
 simp only at n1
 have hl:=T.r8 o ho hpc (.inl hk)
 have sb:2≤t.size∧t.size≤10:=by
  have hb:=ok
  simp only[shapeOk,z_b,z_d] at hb
  rw[hs,size_b (by omega)];omega
 rw[hdst,hsz,top_eq d0 (by exact inn) (by omega) (by omega)]
 simp only[Option.bind_eq_bind,z_o]
 obtain⟨h1,K1⟩:=mg_pub hsh O ok hs hd sp hz
 have B2:Bd c { S1 with table:=seti S1.table (t.dst / 16) { rv S1.table (t.dst / 16) with top:=t.dst + t.size } }:=⟨B.ev,B.old,B.cy,B.fu,B.st,B.pn⟩
 rw[push_eq (t:=t') ?_ (by rw[hr];omega) ?_ (by rw[hn'];exact hn)]
 ·obtain⟨I',B',ht'⟩:=fin_ev (ans:=0) (code:=0) (S1:={ S1 with table:=seti S1.table (t.dst / 16) { rv S1.table (t.dst / 16) with top:=t.dst + t.size } }) (g':={ g with B:=λa=>g.B a∨a = t.dst,L:=λa=>g.L a∨a = t.dst }) I B2 ht ho h1 (K.trans K1 I.sh hsh) ⟨E.th,E.col,E.marks,E.pc_,E.stop,E.full,λq q0=>by
    rw[← E.live q q0]
    show (rv (seti S1.table (t.dst / 16) _) q).live = _
    rw[rv_set (by omega) inn q0];split
    ·subst q;rfl
    ·rfl⟩ (t.roots ++ [t.dst]) (λa h h0=>by
     rcases List.mem_append.1 h with h | h
     ·exact .inl (K.l a (T.rt a h h0))
     ·simp only[List.mem_singleton] at h;exact .inr h) (by simp;omega)
  refine⟨_,?_,⟨_,I'⟩,B',ht'⟩
  unfold Sim.evd Sim.setT
  simp only[seti_seti,hr,hn']
 ·refine sz_of (c:=c) ⟨B.ev,B.old,B.cy,B.fu,B.st,B.pn⟩ hc λu hu=>?_
  rcases List.mem_or_eq_of_mem_set (show u∈seti S1.th i t' from hu) with h | h
  ·rw[E.th] at h;have:=I.roots u h;omega
  ·rw[h,hr];omega
 ·show idx (seti S1.th i t') i = _
  rw[E.th];exact idx_seti ht
theorem making_ok {c:Nat} {S:Sim} {g:Gh} {i:Int} {t:Thr} {o:Op} (hc:c < 900000) (I:IG P S g) (B:Bd c S) (ht:idx S.th i = some t) (ho:S.opOf i t = some o) (m:Mg (xof S g) i o t):Out P c i t.pc (S.making i):=by
 have T:=I.ti i t ht
 have p:=m.p
 have hpc:t.pc≠0:=by omega
 have hwl:=I.wl
 obtain⟨i0,i1⟩:=idx_len ht
 have hn1:=I.n1
 have sb:2≤shapeSize o.sh∧shapeSize o.sh≤10:=by
  have hb:=m.sh
  simp only[shapeOk,z_b,z_d] at hb
  rw[size_b (by omega)];omega
 unfold Sim.making
 rw[ht]
 simp only[Option.bind_eq_bind,z_o]
 rw[ho]
 simp only[z_o]
 by_cases c30:t.pc = 30
 ·rw[if_pos c30]
  rcases room_spec (o:=i) (size:=shapeSize o.sh) I.sh.g.ok (by omega) (by omega) (by omega) (by omega) with h | ⟨t',d,h,P⟩
  ·have h' : tableRoom S.table i (shapeSize o.sh) = none:=h
   simp only[h']
   split
   ·rw[event_eq (I.szok rfl B hc) ht (I.next ht ho)]
    obtain⟨I',B',ht'⟩:=fin_ev (ans:=0) (code:=6) I B ht ho I.sh (Kp.refl i _) (Same.refl S) t.roots T.rt T.rl
    exact⟨_,g,rfl,I',B',.inr ⟨_,ht',.inl rfl⟩⟩
   ·obtain⟨S',h1,I',B',ht'⟩:=fin_back I B ht I.sh (Kp.refl i _) (Same.refl S)
    exact⟨S',g,h1,I',B'.mono (Nat.le_succ c),.inr ⟨_,ht',.inl rfl⟩⟩
  ·have h' : tableRoom S.table i (shapeSize o.sh) = some (t',d):=h
   simp only[h']
   obtain⟨h1,K,O⟩:=room I.sh P
   obtain⟨I',B',ht'⟩:=fin_th (S1:={ S with table:=t' }) (g':=g) (t':={ t with size:=shapeSize o.sh,dst:=d,i:=2,pc:=31 }) I (c:=c) ⟨B.ev,B.old,B.cy,B.fu,B.st,B.pn⟩ ht h1 K ⟨rfl,rfl,rfl,rfl,rfl,rfl,P.live⟩
    (T.upd K rfl rfl hpc ho (.mg ⟨by simp,m.k,m.sh,λ_=>rfl,λ_=>O,λ_ _=>rfl,by simp,by simp,by simp,by simp⟩))
   refine⟨_,g,rfl,I',B'.mono (Nat.le_succ c),.inr ⟨_,ht',.inr ?_⟩⟩
   rw[c30];show rk 31 < rk 30;decide
 rw[if_neg c30]
 have hs:=m.sz (by omega)
 have O:=m.ow (by omega)
 have ow:t.dst + t.size≤S.words.length:=O.wl I.sh.g
 have d0:=O.d0
 by_cases c31:t.pc = 31
 ·rw[if_pos c31,write_eq (by omega) (by omega)]
  simp only[z_o]
  obtain⟨h1,K⟩:=priv (z:=t.dst) (v:=t.dst) I.sh O (by omega) (by omega)
  obtain⟨I',B',ht'⟩:=fin_th (S1:={ S with used:=true,words:=seti S.words t.dst t.dst }) (g':=g) (t':={ t with pc:=32 }) I (c:=c) ⟨B.ev,B.old,B.cy,B.fu,B.st,B.pn⟩ ht h1 K ⟨rfl,rfl,rfl,rfl,rfl,rfl,λ_ _=>rfl⟩
   (T.upd K rfl rfl hpc ho (.mg ⟨by simp,m.k,m.sh,λ_=>hs,λ_=>⟨O.d0,O.k,O.o,O.top,O.fit⟩,λ_ _=>m.i2 (by omega) (by omega),by simp,λ_=>by
    show wv (seti S.words t.dst t.dst) t.dst = t.dst
    rw[wv_set (by omega) (by omega) (by omega),if_pos rfl],by simp,by simp⟩))
  exact⟨_,g,rfl,I',B'.mono (Nat.le_succ c),.inl rfl⟩
 rw[if_neg c31]
 by_cases c32:t.pc = 32
 ·have hi:=m.i2 (by omega) (by omega)
  have hd:wv S.words t.dst = t.dst:=m.hd (by omega)
  rw[if_pos c32,plus_eq (by omega) (by omega)]
  simp only[z_o]
  rw[write_eq (by omega) (by omega)]
  simp only[z_o]
  obtain⟨h1,K⟩:=priv (z:=t.dst + 1) (v:=shapeWord o.sh) I.sh O (by omega) (by omega)
  have e:∀u,0≤u→wv (seti S.words (t.dst + 1) (shapeWord o.sh)) u = if u = t.dst + 1 then shapeWord o.sh else wv S.words u:=λu hu=>wv_set (by omega) (by omega) hu
  have hd' : wv (seti S.words (t.dst + 1) (shapeWord o.sh)) t.dst = t.dst:=by rw[e _ (by omega),if_neg (by omega)];exact hd
  have sp' : wv (seti S.words (t.dst + 1) (shapeWord o.sh)) (t.dst + 1) = shapeWord o.sh:=by rw[e _ (by omega),if_pos rfl]
  have O' : Ow (xof { S with used:=true,words:=seti S.words (t.dst + 1) (shapeWord o.sh) } g) i t.dst t.size:=⟨O.d0,O.k,O.o,O.top,O.fit⟩
  split
  ·rename_i hsz
   have hsz:t.i = t.size:=hsz
   obtain⟨S',e1,⟨g',I'⟩,B',ht'⟩:=made (S1:={ S with used:=true,words:=seti S.words (t.dst + 1) (shapeWord o.sh) }) (t':={ t with pc:=33 }) hc I ⟨B.ev,B.old,B.cy,B.fu,B.st,B.pn⟩ ht ho m.k hpc h1 K ⟨rfl,rfl,rfl,rfl,rfl,rfl,λ_ _=>rfl⟩ O' m.sh hs hd' sp' (λj j0 j1=>by omega) rfl rfl rfl rfl
   exact⟨S',g',e1,I',B',.inr ⟨_,ht',.inl rfl⟩⟩
  ·rename_i hsz
   have hsz:t.i≠t.size:=hsz
   obtain⟨I',B',ht'⟩:=fin_th (S1:={ S with used:=true,words:=seti S.words (t.dst + 1) (shapeWord o.sh) }) (g':=g) (t':={ t with pc:=33 }) I (c:=c) ⟨B.ev,B.old,B.cy,B.fu,B.st,B.pn⟩ ht h1 K ⟨rfl,rfl,rfl,rfl,rfl,rfl,λ_ _=>rfl⟩
    (T.upd K rfl rfl hpc ho (.mg ⟨by simp,m.k,m.sh,λ_=>hs,λ_=>O',λ_ h=>absurd h (by simp),λ_=>⟨by show 2≤t.i;omega,by show t.i < t.size;omega⟩,λ_=>hd',λ_=>sp',λ_ j j0 j1=>by have j1:j < t.i:=j1;omega⟩))
   exact⟨_,g,rfl,I',B'.mono (Nat.le_succ c),.inl rfl⟩
 ·have c33:t.pc = 33:=by omega
  have hi:=m.i3 c33
  have hd:wv S.words t.dst = t.dst:=m.hd (by omega)
  have sp:wv S.words (t.dst + 1) = shapeWord o.sh:=m.sp (by omega)
  have z:∀j,2≤j→j < t.i→wv S.words (t.dst + j) = 0:=m.z (by omega)
  rw[if_neg c32,if_pos c33,plus_eq (by omega) (by omega)]
  simp only[z_o]
  rw[write_eq (by omega) (by omega)]
  simp only[z_o]
  rw[plus_eq (by omega) (by omega)]
  simp only[z_o]
  obtain⟨h1,K⟩:=priv (z:=t.dst + t.i) (v:=0) I.sh O (by omega) (by omega)
  have e:∀u,0≤u→wv (seti S.words (t.dst + t.i) 0) u = if u = t.dst + t.i then 0 else wv S.words u:=λu hu=>wv_set (by omega) (by omega) hu
  have hd' : wv (seti S.words (t.dst + t.i) 0) t.dst = t.dst:=by rw[e _ (by omega),if_neg (by omega)];exact hd
  have sp' : wv (seti S.words (t.dst + t.i) 0) (t.dst + 1) = shapeWord o.sh:=by rw[e _ (by omega),if_neg (by omega)];exact sp
  have z' : ∀j,2≤j→j < t.i + 1→wv (seti S.words (t.dst + t.i) 0) (t.dst + j) = 0:=λj j0 j1=>by
   rw[e _ (by omega)]
   split
   ·rfl
   ·exact z j j0 (by omega)
  have O' : Ow (xof { S with used:=true,words:=seti S.words (t.dst + t.i) 0 } g) i t.dst t.size:=⟨O.d0,O.k,O.o,O.top,O.fit⟩
  split
  ·rename_i hsz
   have hsz:t.i + 1 = t.size:=hsz
   obtain⟨S',e1,⟨g',I'⟩,B',ht'⟩:=made (S1:={ S with used:=true,words:=seti S.words (t.dst + t.i) 0 }) (t':={ t with i:=t.i + 1,pc:=33 }) hc I ⟨B.ev,B.old,B.cy,B.fu,B.st,B.pn⟩ ht ho m.k hpc h1 K ⟨rfl,rfl,rfl,rfl,rfl,rfl,λ_ _=>rfl⟩ O' m.sh hs hd' sp' (λj j0 j1=>z' j j0 (by omega)) rfl rfl rfl rfl
   exact⟨S',g',e1,I',B',.inr ⟨_,ht',.inl rfl⟩⟩
  ·rename_i hsz
   have hsz:t.i + 1≠t.size:=hsz
   obtain⟨I',B',ht'⟩:=fin_th (S1:={ S with used:=true,words:=seti S.words (t.dst + t.i) 0 }) (g':=g) (t':={ t with i:=t.i + 1,pc:=33 }) I (c:=c) ⟨B.ev,B.old,B.cy,B.fu,B.st,B.pn⟩ ht h1 K ⟨rfl,rfl,rfl,rfl,rfl,rfl,λ_ _=>rfl⟩
    (T.upd K rfl rfl hpc ho (.mg ⟨by simp,m.k,m.sh,λ_=>hs,λ_=>O',λ_ h=>absurd h (by simp),λ_=>⟨by show 2≤t.i + 1;omega,by show t.i + 1 < t.size;omega⟩,λ_=>hd',λ_=>sp',λ_ j j0 j1=>z' j j0 j1⟩))
   exact⟨_,g,rfl,I',B'.mono (Nat.le_succ c),.inl rfl⟩
theorem oldV_ok {c:Nat} {S:Sim} {g:Gh} {i v:Int} (hz:S.sz = true) (H:Sh (xof S g)) (B:Bd c S) (hv:v≠0→g.L v) :
  ∃S1,S.oldV v = some S1∧Sh (xof S1 g)∧Kp i (xof S g) (xof S1 g)∧Same S S1∧Bd (c + 1) S1∧S1.used = S.used∧S1.words = S.words∧S1.table = S.table∧S1.phase = S.phase∧(S.phase = 1→Lg (xof S1 g) v):=by
 unfold Sim.oldV
 rw[hz]
 simp only[Bool.not_true,Bool.false_eq_true,if_false]
 by_cases h1:S.phase = 1
 ·by_cases h0:v = 0
  ·rw[if_neg (by omega)]
   exact⟨S,rfl,H,Kp.refl i _,Same.refl S,B.mono (Nat.le_succ c),rfl,rfl,rfl,rfl,λ_=>.inl h0⟩
  ·rw[if_pos ⟨h1,h0⟩]
   have M:=H.mp h1
   obtain⟨P,K⟩:=logv (o:=i) (l:=S.old ++ [v]) H (λu hu=>by
    rcases List.mem_append.1 hu with h | h
    ·exact M.old u h
    ·simp only[List.mem_singleton] at h;subst h;exact hv h0) (λu hu=>List.mem_append_left _ hu)
   have B':=B.mono (Nat.le_succ c)
   refine⟨_,rfl,P,K,⟨rfl,rfl,rfl,rfl,rfl,rfl,λ_ _=>rfl⟩,⟨B'.ev,?_,B'.cy,B'.fu,?_,B'.pn⟩,rfl,rfl,rfl,rfl,λ_=>.inr (.inr (.inr (.inl (List.mem_append_right _ (by simp)))))⟩
   ·have:=B.old;show (S.old ++ [v]).length≤c + 1;simp;omega
   ·have:=B.st
    show S.col.stack.length + (S.old ++ [v]).length + 5 * S.marks.countP (λb=>!b) + (if S.col.pc = 2 then (S.col.sh.refs - S.col.i).toNat else 0)≤3000 + (c + 1)
    simp only[List.length_append,List.length_singleton];omega
 ·rw[if_neg (by omega)]
  exact⟨S,rfl,H,Kp.refl i _,Same.refl S,B.mono (Nat.le_succ c),rfl,rfl,rfl,rfl,λh=>absurd h h1⟩
end Sm
end
section
namespace Sm
variable {P:List (List Op)}
theorem IG.usd {S:Sim} {g:Gh} (I:IG P S g) (b:Bool):IG P { S with used:=b } g:=⟨I.pg,I.sh,I.n0,I.n1,I.pl,I.pp,I.ti,I.c1,I.c2,I.c3,I.wt,I.rs⟩
theorem Bd.usd {c:Nat} {S:Sim} (B:Bd c S) (b:Bool):Bd c { S with used:=b }:=⟨B.ev,B.old,B.cy,B.fu,B.st,B.pn⟩
def Done (P:List (List Op)) (c:Nat) (r:Option Sim):Prop:=∃S' g',r = some S'∧IG P S' g'∧Bd (c + 1) S'∧S'.used = true
theorem Done.out {c:Nat} {i pc:Int} {r:Option Sim} (h:Done P c r):Out P c i pc r:=by
 obtain⟨S',g',h1,h2,h3,h4⟩:=h
 exact⟨S',g',h1,h2,h3,.inl h4⟩
section
variable {c:Nat} {S:Sim} {g:Gh} {i:Int} {t:Thr} {o:Op}
theorem event_ok (hc:c < 900000) (I:IG P S g) (B:Bd c S) (ht:idx S.th i = some t) (ho:S.opOf i t = some o) (ans code:Int):∃S',S.event i ans code = some S'∧IG P S' g∧Bd (c + 1) S'∧idx S'.th i = some (thr0 t.roots (t.next + 1) 0)∧S'.used = S.used:=by
 rw[event_eq (I.szok rfl B hc) ht (I.next ht ho)]
 have T:=I.ti i t ht
 obtain⟨I',B',ht'⟩:=fin_ev (ans:=ans) (code:=code) I B ht ho I.sh (Kp.refl i _) (Same.refl S) t.roots T.rt T.rl
 exact⟨_,rfl,I',B',ht',rfl⟩
theorem push_ok (hc:c < 900000) (I:IG P S g) (B:Bd c S) (ht:idx S.th i = some t) (ho:S.opOf i t = some o) {a:Int} (ha:a≠0→g.L a) (hl:t.roots.length < 8):∃S',S.push i a = some S'∧IG P S' g∧Bd (c + 1) S'∧idx S'.th i = some (thr0 (t.roots ++ [a]) (t.next + 1) 0)∧S'.used = S.used:=by
 rw[push_eq (I.szok rfl B hc) (by omega) ht (I.next ht ho)]
 have T:=I.ti i t ht
 obtain⟨I',B',ht'⟩:=fin_ev (ans:=0) (code:=0) I B ht ho I.sh (Kp.refl i _) (Same.refl S) (t.roots ++ [a]) (λb h h0=>by
  rcases List.mem_append.1 h with h | h
  ·exact T.rt b h h0
  ·simp only[List.mem_singleton] at h;subst h;exact ha h0) (by simp;omega)
 exact⟨_,rfl,I',B',ht',rfl⟩
theorem load_ok {v:Int} (hc:c < 900000) (I:IG P S g) (B:Bd c S) (ht:idx S.th i = some t) (ho:S.opOf i t = some o) (b:Bs (xof S g) o t t.pc) (hp:t.pc = 5∨t.pc = 12) (hv:v≠0→g.L v) (hu:S.used = true):Done P c (S.load i v):=by
 have T:=I.ti i t ht
 have hpc:t.pc≠0:=by omega
 have hk:o.kind = 2:=b.k5 (by omega)
 have hl:=T.r8 o ho hpc (.inr hk)
 unfold Sim.load
 rw[ht]
 simp only[Option.bind_eq_bind,z_o]
 split
 ·rename_i h
  obtain⟨S',h1,h2,h3,_,h5⟩:=push_ok (a:=t.v) hc I B ht ho (b.v (by omega) (by omega)) hl
  exact⟨S',g,h1,h2,h3,by rw[h5,hu]⟩
 ·obtain⟨d,hd,hdf⟩:=I.frm hv
  rw[hd]
  simp only[z_o]
  cases d with
  | false=>
   rw[if_pos (by rfl)]
   obtain⟨S',h1,h2,h3,_,h5⟩:=push_ok (a:=v) hc I B ht ho hv hl
   exact⟨S',g,h1,h2,h3,by rw[h5,hu]⟩
  | true=>
   rw[if_neg (by simp)]
   have b1:Bs (xof S g) o { t with u:=v,v:=v } 11:=⟨by decide,b.k,b.h,b.g,b.kk,b.h0,λ_=>b.nh (by omega),λ_=>b.ng (by omega),λ_=>b.nk (by omega),λ_=>b.s (by omega),λ_=>b.f (by omega),λ_=>hk,λh=>absurd h (by decide),λh=>absurd h (by decide),λh=>absurd h (by decide),λh=>absurd h (by decide),λh=>absurd h (by decide),λh=>absurd h (by decide),λ_ _=>hv,λh=>absurd h (by decide),λh=>absurd h (by decide)⟩
   obtain⟨I',B',_⟩:=fin_th (t':={ t with u:=v,v:=v,pc:=11 }) I B ht I.sh (Kp.refl i _) (Same.refl S) (T.upd (Kp.refl i _) rfl rfl hpc ho (.bs (b1.eqv rfl rfl rfl rfl rfl rfl)))
   exact⟨_,g,rfl,I',B'.mono (Nat.le_succ c),hu⟩
theorem from_ge {w:List Int} {t:List Rg} {B:Int→Prop} (G:Geo w t B) {v:Int} (h:From t v):v≠0:=by
 intro c
 subst c
 have:=h.2
 rw[show (0:Int) / 16 = 0 from rfl,G.ok.e] at this;cases this
theorem IG.ph2 {v:Int} (I:IG P S g) (h:From S.table v):S.phase = 2∨S.phase = 3:=by
 have hp:0≤S.phase∧S.phase≤3:=I.sh.ph
 by_cases c:S.phase≤1
 ·exact absurd h.2 (I.sh.nf c (v / 16) (by have:=h.1;omega))
 ·omega
theorem swap_ok {v:Int} (hc:c < 900000) (I:IG P S g) (B:Bd c S) (ht:idx S.th i = some t) (ho:S.opOf i t = some o) (b:Bs (xof S g) o t t.pc) (hp:t.pc = 10∨t.pc = 16) (hv:v≠0→g.L v) (hu:S.used = true):Done P c (S.swap i v):=by
 have T:=I.ti i t ht
 have hpc:t.pc≠0:=by omega
 have hk:o.kind = 7:=b.k10 (by omega)
 unfold Sim.swap
 rw[ht]
 simp only[Option.bind_eq_bind,z_o]
 split
 ·obtain⟨S',h1,h2,h3,_,h5⟩:=event_ok hc I B ht ho 0 0
  exact⟨S',g,h1,h2,h3,by rw[h5,hu]⟩
 ·obtain⟨d,hd,hdf⟩:=I.frm hv
  rw[hd]
  simp only[z_o]
  cases d with
  | true=>
   have hf:From S.table v:=hdf.1 rfl
   rw[if_pos rfl]
   have b1:Bs (xof S g) o { t with u:=v,v:=v } 15:=⟨by decide,b.k,b.h,b.g,b.kk,b.h0,λ_=>b.nh (by omega),λ_=>b.ng (by omega),λ_=>b.nk (by omega),λ_=>b.s (by omega),λ_=>b.f (by omega),λh=>absurd h (by decide),λh=>absurd h (by decide),λh=>absurd h (by decide),λh=>absurd h (by decide),λ_=>hk,λh=>absurd h (by decide),λh=>absurd h (by decide),λ_ _=>hv,λh=>absurd h (by decide),λ_=>by show S.phase≠1;have:=I.ph2 hf;omega⟩
   obtain⟨I',B',_⟩:=fin_th (t':={ t with u:=v,v:=v,pc:=15 }) I B ht I.sh (Kp.refl i _) (Same.refl S) (T.upd (Kp.refl i _) rfl rfl hpc ho (.bs (b1.eqv rfl rfl rfl rfl rfl rfl)))
   exact⟨_,g,rfl,I',B'.mono (Nat.le_succ c),hu⟩
  | false=>
   rw[if_neg (by decide)]
   split
   ·obtain⟨S',h1,h2,h3,_,h5⟩:=event_ok hc I B ht ho 0 0
    exact⟨S',g,h1,h2,h3,by rw[h5,hu]⟩
   ·obtain⟨S1,e1,H1,K1,E1,B1,u1,w1,t1,p1,l1⟩:=oldV_ok (i:=i) (I.szok rfl B hc) I.sh B hv
    rw[e1]
    simp only[z_o]
    have b0:=b.stable I.sh K1
    have b1:Bs (xof S1 g) o { t with u:=v } 14:=⟨by decide,b0.k,b0.h,b0.g,b0.kk,b0.h0,λ_=>b0.nh (by omega),λ_=>b0.ng (by omega),λ_=>b0.nk (by omega),λ_=>b0.s (by omega),λ_=>b0.f (by omega),λh=>absurd h (by decide),λh=>absurd h (by decide),λh=>absurd h (by decide),λh=>absurd h (by decide),λ_=>hk,λh=>absurd h (by decide),λ_ hp=>l1 (by rw[← p1];exact hp),λ_ h=>absurd rfl h,λh=>absurd h (by decide),λh=>absurd h (by decide)⟩
    obtain⟨I',B',_⟩:=fin_th (t':={ t with u:=v,pc:=14 }) I B1 ht H1 K1 E1 (T.upd K1 rfl rfl hpc ho (.bs (b1.eqv rfl rfl rfl rfl rfl rfl)))
    exact⟨_,g,rfl,I',B',by show S1.used = true;rw[u1,hu]⟩
theorem pins_ok {pins l:List Int} {kind a:Int} (h:l5Pins pins kind a = some l) (h8:pins.length≤8):l.length≤8∧∀v∈l,v∈pins∨v = a:=by
 unfold l5Pins at h
 split at h
 ·split at h
  ·cases h
  ·cases h
   refine⟨by simp;omega,λv hv=>?_⟩
   simpa using hv
 ·split at h
  ·cases h
   refine⟨by simp;omega,λv hv=>.inl ?_⟩
   rcases List.mem_append.1 hv with h | h
   ·exact List.mem_of_mem_take h
   ·exact List.mem_of_mem_drop h
  ·cases h
theorem shape_ok (hc:c < 900000) (I:IG P S g) (B:Bd c S) (ht:idx S.th i = some t) (ho:S.opOf i t = some o) (b:Bs (xof S g) o t t.pc) (hp:t.pc = 4):Out P c i t.pc (S.shape i):=by
 have T:=I.ti i t ht
 have hpc:t.pc≠0:=by omega
 have hk:=b.k
 unfold Sim.shape
 rw[ht]
 simp only[Option.bind_eq_bind,z_o]
 rw[I.szok rfl B hc,if_neg (by decide),ho]
 simp only[z_o]
 split
 ·obtain⟨S',h1,h2,h3,h4,_⟩:=event_ok hc I B ht ho (one (t.h == t.g)) 0
  exact⟨S',g,h1,h2,h3,.inr ⟨_,h4,.inl rfl⟩⟩
 ·rename_i k6
  split
  ·rename_i k10
   split
   ·obtain⟨S',h1,h2,h3,h4,_⟩:=event_ok hc I B ht ho 0 7
    exact⟨S',g,h1,h2,h3,.inr ⟨_,h4,.inl rfl⟩⟩
   ·rename_i pins hpins
    obtain⟨q1,q2⟩:=pins_ok hpins B.pn
    obtain⟨P,K⟩:=pinv (o:=i) (l:=pins) I.sh λv hv=>by
     rcases q2 v hv with h | h
     ·exact I.sh.pl v h
     ·subst h;exact⟨b.h (b.h0 k6),b.nh (by omega)⟩
    have B1:Bd c { S with pins:=pins }:=⟨B.ev,B.old,B.cy,B.fu,B.st,q1⟩
    rw[event_eq (S:={ S with pins:=pins }) (I.szok rfl B1 hc) ht (I.next ht ho)]
    obtain⟨I',B',ht'⟩:=fin_ev (ans:=0) (code:=0) (S1:={ S with pins:=pins }) I B1 ht ho P K ⟨rfl,rfl,rfl,rfl,rfl,rfl,λ_ _=>rfl⟩ t.roots T.rt T.rl
    exact⟨_,g,rfl,I',B',.inr ⟨_,ht',.inl rfl⟩⟩
  ·rename_i k10
   have hh:=b.h0 k6
   obtain⟨a1,a2,a3,a4,a5,a6⟩:=I.in_ (b.h hh)
   have hwl:=I.wl
   rw[plus_eq (by omega) (by omega)]
   simp only[z_o]
   rw[read_eq (by omega) (by omega)]
   simp only[z_o]
   have es:(shapeOf (wv S.words (t.h + 1))).1 = shp S.words t.h:=rfl
   rw[es]
   split
   ·obtain⟨S',h1,h2,h3,h4,h5⟩:=event_ok (S:={ S with used:=true }) hc (I.usd true) (B.usd true) ht ho 0 4
    exact⟨S',g,h1,h2,h3,.inl h5⟩
   ·rename_i hf
    have sb:=sz_b S.words t.h
    have hf:l5Field o (shp S.words t.h).refs (shp S.words t.h).nums = true:=by simpa using hf
    have hfld:0≤o.f∧(o.kind = 4∨o.kind = 5→o.f < (shp S.words t.h).nums)∧(o.kind≠4→o.kind≠5→o.f < (shp S.words t.h).refs):=by
     unfold l5Field at hf
     split at hf
     ·rename_i h45
      simp only[Bool.or_eq_true,beq_iff_eq] at h45
      simp only[z_b,z_d] at hf
      exact⟨hf.1,λ_=>hf.2,λh4 h5=>by rcases h45 with h | h<;>contradiction⟩
     ·rename_i h45
      simp only[Bool.or_eq_true,beq_iff_eq,not_or] at h45
      simp only[z_b,z_d] at hf
      exact⟨hf.1,λh=>by rcases h with h | h<;>simp[h] at h45,λ_ _=>hf.2⟩
    have go:∀q:Int,(q = 5∨q = 6∨q = 7∨q = 8∨q = 9∨q = 10)→(q = 5→o.kind = 2)→(q = 6∨q = 7→o.kind = 3)→(q = 8→o.kind = 4)→(q = 9→o.kind = 5)→(q = 10→o.kind = 7)→(q = 7→S.phase≠1)→
      Done P c (some (({ S with used:=true }:Sim).setT i { t with sh:=shp S.words t.h,pc:=q })):=λq hq h5 h6 h8 h9 h10 h7=>by
     have b1:Bs (xof S g) o { t with sh:=shp S.words t.h } q:=⟨by omega,b.k,b.h,b.g,b.kk,b.h0,λ_=>b.nh (by omega),λ_=>b.ng (by omega),λ_=>b.nk (by omega),λ_=>⟨rfl,hh⟩,λ_=>hfld,λh=>h5 (by omega),λh=>h6 (by omega),h8,h9,λh=>h10 (by omega),λh hph=>absurd hph (h7 h),λh=>by omega,λh=>by omega,λh=>by omega,λh=>by omega⟩
     obtain⟨I',B',_⟩:=fin_th (S1:={ S with used:=true }) (t':={ t with sh:=shp S.words t.h,pc:=q }) I (B.usd true) ht I.sh (Kp.refl i _) ⟨rfl,rfl,rfl,rfl,rfl,rfl,λ_ _=>rfl⟩ (T.upd (Kp.refl i _) rfl rfl hpc ho (.bs (b1.eqv rfl rfl rfl rfl rfl rfl)))
     exact⟨_,g,rfl,I',B'.mono (Nat.le_succ c),rfl⟩
    refine Done.out ?_
    by_cases k2:o.kind = 2
    ·rw[if_pos k2];exact go 5 (by omega) (λ_=>k2) (by omega) (by omega) (by omega) (by omega) (by omega)
    rw[if_neg k2]
    by_cases k3:o.kind = 3
    ·rw[if_pos k3]
     split
     ·exact go 6 (by omega) (by omega) (λ_=>k3) (by omega) (by omega) (by omega) (by omega)
     ·rename_i h
      exact go 7 (by omega) (by omega) (λ_=>k3) (by omega) (by omega) (by omega) (λ_=>h)
    rw[if_neg k3]
    by_cases k4:o.kind = 4
    ·rw[if_pos k4];exact go 8 (by omega) (by omega) (by omega) (λ_=>k4) (by omega) (by omega) (by omega)
    rw[if_neg k4]
    by_cases k5:o.kind = 5
    ·rw[if_pos k5];exact go 9 (by omega) (by omega) (by omega) (by omega) (λ_=>k5) (by omega) (by omega)
    rw[if_neg k5,if_pos (by omega)]
    exact go 10 (by omega) (by omega) (by omega) (by omega) (by omega) (λ_=>by omega) (by omega)
end
end Sm
end
section
namespace Sm
variable {P:List (List Op)}
section
variable {c:Nat} {S:Sim} {g:Gh} {i:Int} {t:Thr} {o:Op}
theorem field_ok (hc:c < 900000) (I:IG P S g) (B:Bd c S) (ht:idx S.th i = some t) (ho:S.opOf i t = some o) (b:Bs (xof S g) o t t.pc) (hp:5≤t.pc) (h11:t.pc≠11) (h15:t.pc≠15):Out P c i t.pc (S.field i):=by
 have T:=I.ti i t ht
 have hpc:t.pc≠0:=by omega
 have hwl:=I.wl
 have hbp:=b.p
 obtain⟨hsh,hh⟩:=b.s hp
 have hL:=b.h hh
 have hN:=b.nh (by omega)
 obtain⟨a1,a2,a3,a4,a5,a6⟩:=I.in_ hL
 have sb:=sz_b S.words t.h
 simp only at hsh
 obtain⟨f0,fn,fr⟩:=b.f hp
 have fr' : o.kind≠4→o.kind≠5→o.f < (shp S.words t.h).refs:=λh h'=>by rw[← hsh];exact fr h h'
 have fn' : o.kind = 4∨o.kind = 5→o.f < (shp S.words t.h).nums:=λh=>by rw[← hsh];exact fn h
 have B1:=B.usd true
 have I1:=I.usd true
 have rdv:o.kind≠4→o.kind≠5→wv S.words (t.h + 2 + o.f)≠0→g.L (wv S.words (t.h + 2 + o.f)):=λh h'=>I.sh.rf t.h o.f hL f0 (fr' h h')
 have o1:o.f < 5:=by
  by_cases k:o.kind = 4∨o.kind = 5
  ·have:=fn' k;omega
  ·have:=fr' (λh=>k (.inl h)) (λh=>k (.inr h));omega
 have opu:({ S with used:=true }:Sim).opOf i t = some o:=ho
 unfold Sim.field
 rw[ht]
 simp only[Option.bind_eq_bind,z_o]
 rw[ho]
 simp only[z_o]
 rw[plus_eq (by omega) (by omega)]
 simp only[z_o]
 rw[plus_eq (by omega) (by omega)]
 simp only[z_o]
 rw[plus_eq (by rw[hsh];omega) (by rw[hsh];omega)]
 simp only[z_o]
 rw[plus_eq (by rw[hsh];omega) (by rw[hsh];omega)]
 simp only[z_o]
 by_cases c5:t.pc = 5∨t.pc = 12
 ·have hk:=b.k5 (by omega)
  have f1:=fr' (by omega) (by omega)
  rw[if_pos c5,read_eq (by omega) (by omega)]
  simp only[z_o]
  exact (load_ok hc I1 B1 ht opu b c5 (rdv (by omega) (by omega)) rfl).out
 rw[if_neg c5]
 by_cases c6:t.pc = 6
 ·have hk:=b.k6 (by omega)
  have f1:=fr' (by omega) (by omega)
  rw[if_pos c6,read_eq (by omega) (by omega)]
  simp only[z_o]
  obtain⟨S1,e1,H1,K1,E1,B1',u1,w1,t1,p1,l1⟩:=oldV_ok (i:=i) (I1.szok rfl B1 hc) I1.sh B1 (rdv (by omega) (by omega))
  rw[e1]
  simp only[z_o]
  have b0:=b.stable I.sh K1
  have b1:Bs (xof S1 g) o t 7:=⟨by decide,b0.k,b0.h,b0.g,b0.kk,b0.h0,λ_=>b0.nh (by omega),λ_=>b0.ng (by omega),λ_=>b0.nk (by omega),λ_=>b0.s (by omega),λ_=>b0.f (by omega),λh=>absurd h (by decide),λ_=>hk,λh=>absurd h (by decide),λh=>absurd h (by decide),λh=>absurd h (by decide),λ_ hph htm=>by
    have hph' : S.phase = 1:=by rw[← p1];exact hph
    rw[K1.tma (show (0:Int)≤t.h by omega)] at htm
    rcases (I.sh.mp hph').un t.h o.f hL htm f0 f1 with h | h
    ·have:=l1 hph'
     rw[show (xof S1 g).q (t.h + 2 + o.f) = wv S.words (t.h + 2 + o.f) from h.symm]
     exact this
    ·exact K1.lg hph' _ h,λh=>absurd h (by decide),λh=>absurd h (by decide),λh=>absurd h (by decide),λh=>absurd h (by decide)⟩
  obtain⟨I',B',_⟩:=fin_th (t':={ t with pc:=7 }) I B1' ht H1 K1 ⟨E1.th,E1.col,E1.marks,E1.pc_,E1.stop,E1.full,E1.live⟩ (T.upd K1 rfl rfl hpc ho (.bs (b1.eqv rfl rfl rfl rfl rfl rfl)))
  exact⟨_,g,rfl,I',B',.inl u1⟩
 rw[if_neg c6]
 by_cases c7:t.pc = 7
 ·have hk:=b.k6 (by omega)
  have f1:=fr' (by omega) (by omega)
  rw[if_pos c7,write_eq (by omega) (by omega)]
  simp only[z_o]
  obtain⟨P,K⟩:=ref (o:=i) (v:=t.g) I.sh hL hN f0 f1 b.g (b.l7 c7) (λ_=>b.ng (by omega))
  have B2:Bd c { S with used:=true,words:=seti S.words (t.h + 2 + o.f) t.g }:=⟨B.ev,B.old,B.cy,B.fu,B.st,B.pn⟩
  rw[event_eq (S:={ S with used:=true,words:=seti S.words (t.h + 2 + o.f) t.g }) (I.szok rfl B2 hc) ht (I.next ht ho)]
  obtain⟨I',B',_⟩:=fin_ev (ans:=0) (code:=0) (S1:={ S with used:=true,words:=seti S.words (t.h + 2 + o.f) t.g }) I B2 ht ho P K ⟨rfl,rfl,rfl,rfl,rfl,rfl,λ_ _=>rfl⟩ t.roots T.rt T.rl
  exact⟨_,g,rfl,I',B',.inl rfl⟩
 rw[if_neg c7]
 by_cases c8:t.pc = 8
 ·have hk:=b.k8 c8
  have f1:=fn' (.inl hk)
  have e:t.h + 2 + t.sh.refs + o.f = t.h + (2 + (shp S.words t.h).refs + o.f):=by rw[hsh];omega
  rw[if_pos c8,e,write_eq (by omega) (by omega)]
  simp only[z_o]
  obtain⟨P,K⟩:=num (o:=i) (v:=o.v) (k:=2 + (shp S.words t.h).refs + o.f) I.sh hL hN (by show 2 + (shp S.words t.h).refs≤_;omega) (by show _ < Sm.sz S.words t.h;omega)
  have B2:Bd c { S with used:=true,words:=seti S.words (t.h + (2 + (shp S.words t.h).refs + o.f)) o.v }:=⟨B.ev,B.old,B.cy,B.fu,B.st,B.pn⟩
  rw[event_eq (S:={ S with used:=true,words:=seti S.words (t.h + (2 + (shp S.words t.h).refs + o.f)) o.v }) (I.szok rfl B2 hc) ht (I.next ht ho)]
  obtain⟨I',B',_⟩:=fin_ev (ans:=0) (code:=0) (S1:={ S with used:=true,words:=seti S.words (t.h + (2 + (shp S.words t.h).refs + o.f)) o.v }) I B2 ht ho P K ⟨rfl,rfl,rfl,rfl,rfl,rfl,λ_ _=>rfl⟩ t.roots T.rt T.rl
  exact⟨_,g,rfl,I',B',.inl rfl⟩
 rw[if_neg c8]
 by_cases c9:t.pc = 9
 ·have hk:=b.k9 c9
  have f1:=fn' (.inr hk)
  rw[if_pos c9,read_eq (by rw[hsh];omega) (by rw[hsh];omega)]
  simp only[z_o]
  obtain⟨S',h1,h2,h3,h4,h5⟩:=event_ok (S:={ S with used:=true }) hc I1 B1 ht opu (wv S.words (t.h + 2 + t.sh.refs + o.f)) 0
  exact⟨S',g,h1,h2,h3,.inl h5⟩
 rw[if_neg c9]
 have hk:o.kind = 7:=b.k10 (by omega)
 have f1:=fr' (by omega) (by omega)
 by_cases c10:t.pc = 10
 ·rw[if_pos c10,read_eq (by omega) (by omega)]
  simp only[z_o]
  exact (swap_ok hc I1 B1 ht opu b (.inl c10) (rdv (by omega) (by omega)) rfl).out
 rw[if_neg c10]
 by_cases c14:t.pc = 14
 ·rw[if_pos c14,read_eq (by omega) (by omega)]
  simp only[z_o]
  split
  ·rename_i hu
   rw[write_eq (S:={ S with used:=true }) (by omega) (by show _ < (S.words.length:Int);omega)]
   simp only[z_o]
   obtain⟨P,K⟩:=ref (o:=i) (v:=t.k) I.sh hL hN f0 f1 b.kk (λhph htm=>by
    rcases (I.sh.mp hph).un t.h o.f hL htm f0 f1 with h | h
    ·have:=b.l14 c14 hph
     rw[show (xof S g).q (t.h + 2 + o.f) = wv S.words (t.h + 2 + o.f) from h.symm,hu]
     exact this
    ·exact h) (λ_=>b.nk (by omega))
   have B2:Bd c { S with used:=true,words:=seti S.words (t.h + 2 + o.f) t.k }:=⟨B.ev,B.old,B.cy,B.fu,B.st,B.pn⟩
   rw[event_eq (S:={ S with used:=true,words:=seti S.words (t.h + 2 + o.f) t.k }) (I.szok rfl B2 hc) ht (I.next ht ho)]
   obtain⟨I',B',_⟩:=fin_ev (ans:=1) (code:=0) (S1:={ S with used:=true,words:=seti S.words (t.h + 2 + o.f) t.k }) I B2 ht ho P K ⟨rfl,rfl,rfl,rfl,rfl,rfl,λ_ _=>rfl⟩ t.roots T.rt T.rl
   exact⟨_,g,rfl,I',B',.inl rfl⟩
  ·have b1:Bs (xof S g) o t 10:=⟨by decide,b.k,b.h,b.g,b.kk,b.h0,λ_=>b.nh (by omega),λ_=>b.ng (by omega),λ_=>b.nk (by omega),λ_=>b.s (by omega),λ_=>b.f (by omega),λh=>absurd h (by decide),λh=>absurd h (by decide),λh=>absurd h (by decide),λh=>absurd h (by decide),λ_=>hk,λh=>absurd h (by decide),λh=>absurd h (by decide),λh=>absurd h (by decide),λh=>absurd h (by decide),λh=>absurd h (by decide)⟩
   obtain⟨I',B',_⟩:=fin_th (S1:={ S with used:=true }) (t':={ t with pc:=10 }) I B1 ht I.sh (Kp.refl i _) ⟨rfl,rfl,rfl,rfl,rfl,rfl,λ_ _=>rfl⟩ (T.upd (Kp.refl i _) rfl rfl hpc ho (.bs (b1.eqv rfl rfl rfl rfl rfl rfl)))
   exact⟨_,g,rfl,I',B'.mono (Nat.le_succ c),.inl rfl⟩
 rw[if_neg c14,if_pos (by omega)]
 have c16:t.pc = 16:=by omega
 split
 ·have b1:Bs (xof S g) o t 14:=⟨by decide,b.k,b.h,b.g,b.kk,b.h0,λ_=>b.nh (by omega),λ_=>b.ng (by omega),λ_=>b.nk (by omega),λ_=>b.s (by omega),λ_=>b.f (by omega),λh=>absurd h (by decide),λh=>absurd h (by decide),λh=>absurd h (by decide),λh=>absurd h (by decide),λ_=>hk,λh=>absurd h (by decide),λ_ hph=>absurd hph (b.p15 (.inr c16)),λ_ h=>absurd rfl h,λh=>absurd h (by decide),λh=>absurd h (by decide)⟩
  obtain⟨I',B',ht'⟩:=fin_th (t':={ t with pc:=14 }) I B ht I.sh (Kp.refl i _) (Same.refl S) (T.upd (Kp.refl i _) rfl rfl hpc ho (.bs (b1.eqv rfl rfl rfl rfl rfl rfl)))
  refine⟨_,g,rfl,I',B'.mono (Nat.le_succ c),.inr ⟨_,ht',.inr ?_⟩⟩
  rw[c16];show rk 14 < rk 16;decide
 ·rw[read_eq (by omega) (by omega)]
  simp only[z_o]
  exact (swap_ok hc I1 B1 ht opu b (.inr c16) (rdv (by omega) (by omega)) rfl).out
theorem tstep_ok (hc:c < 900000) (I:IG P S g) (B:Bd c S) (ht:idx S.th i = some t) (hp:t.pc≠0):Out P c i t.pc (S.tstep i):=by
 have T:=I.ti i t ht
 rcases T.run with ⟨h,_⟩ | ⟨o,ho,r⟩
 ·exact absurd h hp
 unfold Sim.tstep
 rw[ht]
 simp only[Option.bind_eq_bind,z_o]
 cases r with
 | bs b=>
  have hbp:=b.p
  by_cases c1:t.pc≤3∨t.pc = 11∨t.pc = 15
  ·rw[if_pos c1]
   exact resolve_ok I B ht ho b (by unfold retOk;omega)
  rw[if_neg c1]
  by_cases c4:t.pc = 4
  ·rw[if_pos c4];exact shape_ok hc I B ht ho b c4
  rw[if_neg c4,if_neg (by omega),if_neg (by omega)]
  exact field_ok hc I B ht ho b (by omega) (by omega) (by omega)
 | cp b r e cp=>
  have hcp:=cp.p
  rw[if_neg (by omega),if_neg (by omega),if_neg (by omega),if_pos (by omega)]
  exact copying_ok I B ht ho b r e cp
 | mg m=>
  have hm:=m.p
  rw[if_neg (by omega),if_neg (by omega),if_pos (by omega)]
  exact making_ok hc I B ht ho m
theorem tloop_ok:∀(n c:Nat) (S:Sim) (g:Gh) (t:Thr),c + n < 900000→IG P S g→Bd c S→idx S.th i = some t→(t.pc = 0∨S.used = true∨rk t.pc < n)→∀m,n < m→∃S' g',S.tloop m i = some S'∧IG P S' g'∧Bd (c + n) S':=by
 intro n;induction n with
 | zero=>
  intro c S g t hc I B ht hr m hm
  obtain⟨m,rfl⟩:∃k,m = k + 1:=⟨m - 1,by omega⟩
  refine⟨S,g,?_,I,B⟩
  unfold Sim.tloop
  rw[ht]
  simp only[Option.bind_eq_bind,z_o]
  rw[if_pos]
  rcases hr with h | h | h
  ·exact .inr h
  ·exact .inl h
  ·omega
 | succ n ih=>
  intro c S g t hc I B ht hr m hm
  obtain⟨m,rfl⟩:∃k,m = k + 1:=⟨m - 1,by omega⟩
  unfold Sim.tloop
  rw[ht]
  simp only[Option.bind_eq_bind,z_o]
  by_cases hs:S.used = true∨t.pc = 0
  ·rw[if_pos hs];exact⟨S,g,rfl,I,B.mono (by omega)⟩
  ·rw[if_neg hs]
   obtain⟨S',g',h1,I',B',hn⟩:=tstep_ok (by omega) I B ht (λh=>hs (.inr h))
   rw[h1]
   simp only[z_o]
   have hr' : rk t.pc < n + 1:=by
    rcases hr with h | h | h
    ·exact absurd (.inr h) hs
    ·exact absurd (.inl h) hs
    ·exact h
   have hlen:=(idx_len ht)
   have ht' : ∃t',idx S'.th i = some t'∧(t'.pc = 0∨S'.used = true∨rk t'.pc < n):=by
    rcases hn with h | ⟨t',h2,h3⟩
    ·have:∃t',idx S'.th i = some t':=by
      have e1:=I'.pl
      have e2:=I.pl
      rw[I'.pg] at e1
      rw[I.pg] at e2
      exact⟨_,idx_gv (d:=t) hlen.1 (by omega)⟩
     obtain⟨t',h2⟩:=this
     exact⟨t',h2,.inr (.inl h)⟩
    ·exact⟨t',h2,h3.imp id λh=>.inr (by omega)⟩
   obtain⟨t',h2,h3⟩:=ht'
   obtain⟨S2,g2,e2,I2,B2⟩:=ih (c + 1) S' g' t' (by omega) I' B' h2 h3 m (by omega)
   exact⟨S2,g2,e2,I2,B2.mono (by omega)⟩
end
end Sm
end
section
namespace Sm
variable {P:List (List Op)}
theorem begin_facts {o:Op} {roots:List Int} (ok:opOk o = true) (h:l5Begin o roots 0 = 0) :
  (o.kind≠1→o.kind≠8→0≤o.a∧o.a < roots.length)∧(o.kind = 3∨o.kind = 6∨o.kind = 7→0≤o.b∧o.b < roots.length)∧(o.kind = 7→0≤o.c∧o.c < roots.length)∧
  (o.kind≠1→o.kind≠6→o.kind≠8→o.kind≠9→(idx roots o.a).getD 0≠0)∧(o.kind = 1∨o.kind = 2∨o.kind = 9→roots.length≠8):=by
 have hk:1≤o.kind∧o.kind≤11:=by
  simp only[opOk,z_b,z_d] at ok;exact ok.1
 unfold l5Begin at h
 have hc:o.kind = 1∨o.kind = 2∨o.kind = 3∨o.kind = 4∨o.kind = 5∨o.kind = 6∨o.kind = 7∨o.kind = 8∨o.kind = 9∨o.kind = 10∨o.kind = 11:=by omega
 rcases hc with k | k | k | k | k | k | k | k | k | k | k<;>simp only[k] at h ⊢<;>simp[fieldsOp,hnd] at h ⊢
 all_goals (first | omega | skip)
section
variable {c:Nat} {S:Sim} {g:Gh} {i:Int} {t:Thr} {o:Op}
theorem idx_mem {α:Type} {l:List α} {i:Int} {a:α} (h:idx l i = some a):a∈l:=by
 unfold idx at h
 split at h
 ·exact List.mem_of_getElem? h
 ·cases h
theorem idx_in {α:Type} {l:List α} {i:Int} (h:0≤i∧i < l.length):∃a,idx l i = some a∧a∈l:=by
 obtain⟨h0,h1⟩:=h
 have:idx l i = some (l[i.toNat]'(by omega)):=by unfold idx;rw[if_pos h0,List.getElem?_eq_getElem]
 exact⟨_,this,idx_mem this⟩
theorem begin_ok (hc:c < 900000) (I:IG P S g) (B:Bd c S) (ht:idx S.th i = some t) (ho:S.opOf i t = some o) (hp:t.pc = 0):∃S' g',S.begin_ i = some S'∧IG P S' g'∧Bd (c + 1) S':=by
 have T:=I.ti i t ht
 have hgk:t.g = 0∧t.k = 0:=by
  rcases T.run with h | ⟨o',h,r⟩
  ·exact h.2
  ·exfalso
   cases r with
   | bs b=>have:=b.p;omega
   | cp _ _ _ cp=>have:=cp.p;omega
   | mg m=>have:=m.p;omega
 have ev:∀code,∃S' g',S.event i 0 code = some S'∧IG P S' g'∧Bd (c + 1) S':=λcode=>by
  obtain⟨S',h1,h2,h3,_⟩:=event_ok hc I B ht ho 0 code
  exact⟨S',g,h1,h2,h3⟩
 unfold Sim.begin_
 rw[ht]
 simp only[Option.bind_eq_bind,z_o]
 rw[ho]
 simp only[z_o]
 split
 ·exact ev 1
 rename_i hok
 have hok:opOk o = true:=by simpa using hok
 split
 ·exact ev _
 rename_i hcode
 have hcode:l5Begin o t.roots 0 = 0:=by simpa using hcode
 have hk:1≤o.kind∧o.kind≤11:=by
  simp only[opOk,z_b,z_d] at hok;exact hok.1
 obtain⟨fa,fb,fc,fz,f8⟩:=begin_facts hok hcode
 have rl:=T.rl
 have hL:∀(a:Int) (r:Int),idx t.roots a = some r→r≠0→g.L r:=λa r h h0=>T.rt r (idx_mem h) h0
 split
 ·rename_i k8
  have hz:=I.szok rfl B hc
  have hz2:(S.setT i { t with roots:=t.roots.take (t.roots.length - 1) }).sz = true:=by
   refine sz_of (c:=c) ⟨B.ev,B.old,B.cy,B.fu,B.st,B.pn⟩ hc λu hu=>?_
   rcases List.mem_or_eq_of_mem_set (show u∈seti S.th i _ from hu) with h | h
   ·have:=I.roots u h;omega
   ·rw[h];simp;omega
  rw[event_eq hz2 (idx_seti ht) (by have:=I.next ht ho;exact this)]
  obtain⟨I',B',_⟩:=fin_ev (ans:=0) (code:=0) I B ht ho I.sh (Kp.refl i _) (Same.refl S) (t.roots.take (t.roots.length - 1)) (λa h=>T.rt a (List.mem_of_mem_take h)) (by simp;omega)
  refine⟨_,g,?_,I',B'⟩
  unfold Sim.evd Sim.setT
  simp only[seti_seti]
 split
 ·rename_i k8 k9
  obtain⟨a,ha,ham⟩:=idx_in (fa (by omega) (by omega))
  rw[ha]
  simp only[z_o]
  obtain⟨S',h1,h2,h3,_⟩:=push_ok hc I B ht ho (a:=a) (T.rt a ham) (by have:=f8 (by omega);omega)
  exact⟨S',g,h1,h2,h3⟩
 split
 ·rename_i k8 k9 k1
  obtain⟨I',B',_⟩:=fin_th (t':={ t with pc:=30 }) I B ht I.sh (Kp.refl i _) (Same.refl S)
   ⟨T.rt,T.rl,T.nx,λo' h' _ _=>by have:=f8 (by omega);show t.roots.length < 8;omega,.inr ⟨o,ho,.mg ⟨by simp,k1,by
    simp only[opOk,z_b,Bool.or_eq_true,k1] at hok
    simpa using hok.2,by simp,by simp,by simp,by simp,by simp,by simp,by simp⟩⟩⟩
  exact⟨_,g,rfl,I',B'.mono (Nat.le_succ c)⟩
 rename_i k8 k9 k1
 obtain⟨a,ha,ham⟩:=idx_in (fa k1 k8)
 have ha0:o.kind≠6→a≠0:=λk6=>by
  have:=fz k1 k6 k8 k9
  rw[ha] at this;exact this
 rw[ha]
 simp only[z_o]
 have fin:∀(gg kk:Int),(gg≠0→g.L gg)→(kk≠0→g.L kk)→∃S' g',some (S.setT i { t with pc:=1,h:=a,g:=gg,k:=kk }) = some S'∧IG P S' g'∧Bd (c + 1) S':=λgg kk hg hkk=>by
  have b1:Bs (xof S g) o { t with pc:=1,h:=a,g:=gg,k:=kk } 1:=⟨by decide,⟨by omega,by omega,by omega,by omega⟩,T.rt a ham,hg,hkk,ha0,λh=>absurd h (by decide),λh=>absurd h (by decide),λh=>absurd h (by decide),λh=>absurd h (by decide),λh=>absurd h (by decide),λh=>absurd h (by decide),λh=>absurd h (by decide),λh=>absurd h (by decide),λh=>absurd h (by decide),λh=>absurd h (by decide),λh=>absurd h (by decide),λh=>absurd h (by decide),λh=>absurd h (by decide),λh=>absurd h (by decide),λh=>absurd h (by decide)⟩
  obtain⟨I',B',_⟩:=fin_th (t':={ t with pc:=1,h:=a,g:=gg,k:=kk }) I B ht I.sh (Kp.refl i _) (Same.refl S)
   ⟨T.rt,T.rl,T.nx,λo' h' _ hk'=>by
    have:o' = o:=by
     have h2:S.opOf i t = some o':=h'
     rw[ho] at h2;cases h2;rfl
    subst this
    have:=f8 (by omega);show t.roots.length < 8;omega,.inr ⟨o,ho,.bs b1⟩⟩
  exact⟨_,g,rfl,I',B'.mono (Nat.le_succ c)⟩
 by_cases hb:o.kind = 3∨o.kind = 6∨o.kind = 7
 ·obtain⟨b,hb',hbm⟩:=idx_in (fb hb)
  rw[if_pos hb,hb']
  simp only[z_o]
  by_cases h7:o.kind = 7
  ·obtain⟨k,hk',hkm⟩:=idx_in (fc h7)
   rw[if_pos h7,hk']
   simp only[z_o]
   exact fin b k (T.rt b hbm) (T.rt k hkm)
  ·rw[if_neg h7]
   simp only[z_o]
   exact fin b t.k (T.rt b hbm) (λh=>absurd hgk.2 h)
 ·rw[if_neg hb]
  simp only[z_o]
  rw[if_neg (by omega)]
  simp only[z_o]
  exact fin t.g t.k (λh=>absurd hgk.1 h) (λh=>absurd hgk.2 h)
theorem rk_le (pc:Int):rk pc≤4:=by
 unfold rk
 split<;>(try split)<;>(try split)<;>(try split)<;>(try split)<;>(try split)<;>(try split)<;>(try split)<;>decide
theorem thread_ok {n:Nat} (hc:c + 5 < 900000) (hn:5 < n) (I:IG P S g) (B:Bd c S) (h0:0≤i) (h1:i < S.th.length):∃S' g',S.thread n i = some S'∧IG P S' g'∧Bd (c + 5) S':=by
 obtain⟨t,ht,_⟩:=idx_in ⟨h0,h1⟩
 have T:=I.ti i t ht
 unfold Sim.thread
 rw[ht]
 simp only[Option.bind_eq_bind,z_o]
 split
 ·rename_i hp
  split
  ·exact⟨S,g,rfl,I,B.mono (by omega)⟩
  ·obtain⟨p,hp',hpm⟩:=idx_in (l:=S.progs) (i:=i) ⟨h0,by rw[I.pl];exact h1⟩
   rw[hp']
   simp only[z_o]
   split
   ·rename_i hlt
    obtain⟨o,ho',_⟩:=idx_in ⟨T.nx,hlt⟩
    have ho:S.opOf i t = some o:=by unfold Sim.opOf;rw[hp'];exact ho'
    obtain⟨S',g',e1,e2,e3⟩:=begin_ok (by omega) I B ht ho hp
    exact⟨S',g',e1,e2,e3.mono (by omega)⟩
   ·exact⟨S,g,rfl,I,B.mono (by omega)⟩
 ·rename_i hp
  exact tloop_ok 5 c { S with used:=false } g t (by omega) (I.usd false) (B.usd false) ht (.inr (.inr (by have:=rk_le t.pc;omega))) n hn
end
end Sm
end
